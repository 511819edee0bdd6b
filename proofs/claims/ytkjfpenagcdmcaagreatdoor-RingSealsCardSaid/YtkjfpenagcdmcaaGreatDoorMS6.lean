/- Texts of a proof, one behind the other: SF6 SC1 SC2 SC3 SG1 SG2 SV1 SN1 SN2 SN3 SN7 SN8 SN9 SN10 SN11 SN12 SH1 SH2 SR1 SR2 SV2 SV3 SHB. -/
import Derived.Test.YtkjfpenagcdmcaaGreatDoorMS5
import Derived.KernelRfl
namespace Go.Proofs.YtkjfpenagcdmcaaGreatDoor
open Go Go.Sx Go.RowKit
open Go.IntKind (wrap)
set_option linter.all false
set_option maxRecDepth 100000
set_option maxHeartbeats 1000000
theorem Z14 (k:Nat) {x y a:Int} (hx:x=a*((2^k:Nat):Int)) (ha:0<=a) (h0:0<=y) (hy:y<((2^k:Nat):Int)) (h1:y+x<18446744073709551616):Z4 .or .u64 y x=y+x:=by
 have hp:(0:Int)<=((2^k:Nat):Int):=Int.natCast_nonneg _
 have hx0:0<=x:=by rw [hx]; exact Int.mul_nonneg ha hp
 have:=Zyd k hx ha h0 hy (by omega)
 rw [or64 y.toNat x.toNat (by omega) (by omega) (by omega) (by omega)]
 rw [or64 x.toNat y.toNat (by omega) (by omega) (by omega) (by omega)] at this
 rw [Nat.or_comm,this,Int.add_comm]
def byt (n:Int):LI:=[n%256,n / 256%256,n / 65536%256,n / 16777216%256,n / 4294967296%256,n / 1099511627776%256,n / 281474976710656%256,n / 72057594037927936%256,n / 18446744073709551616%256,n / 4722366482869645213696%256,n / 1208925819614629174706176%256,n / 309485009821345068724781056%256,n / 79228162514264337593543950336%256,n / 20282409603651670423947251286016%256,n / 5192296858534827628530496329220096%256,n / 1329227995784915872903807060280344576%256,n / 340282366920938463463374607431768211456%256,n / 87112285931760246646623899502532662132736%256,n / 22300745198530623141535718272648361505980416%256,n / 5708990770823839524233143877797980545530986496%256,n / 1461501637330902918203684832716283019655932542976%256,n / 374144419156711147060143317175368453031918731001856%256,n / 95780971304118053647396689196894323976171195136475136%256,n / 24519928653854221733733552434404946937899825954937634816%256,n / 6277101735386680763835789423207666416102355444464034512896%256,n / 1606938044258990275541962092341162602522202993782792835301376%256,n / 411376139330301510538742295639337626245683966408394965837152256%256,n / 105312291668557186697918027683670432318895095400549111254310977536%256,n / 26959946667150639794667015087019630673637144422540572481103610249216%256,n / 6901746346790563787434755862277025452451108972170386555162524223799296%256,n / 1766847064778384329583297500742918515827483896875618958121606201292619776%256,n / 452312848583266388373324160190187140051835877600158453279131187530910662656%256]
theorem Z01h (k:LI->Option (LI)) (y0 y1 y2 y3 y4:Int):Z6t [y0,y1,y2,y3,y4] k big 0 (List.replicate 32 0)=k [wrap .u8 (Zx .u64 y0 0),wrap .u8 (Zx .u64 y0 8),wrap .u8 (Zx .u64 y0 16),wrap .u8 (Zx .u64 y0 24),wrap .u8 (Zx .u64 y0 32),wrap .u8 (Zx .u64 y0 40),wrap .u8 (Z4 .or .u64 (Zx .u64 y0 48) (Zn .u64 y1 3)),wrap .u8 (Zx .u64 y1 5),wrap .u8 (Zx .u64 y1 13),wrap .u8 (Zx .u64 y1 21),wrap .u8 (Zx .u64 y1 29),wrap .u8 (Zx .u64 y1 37),wrap .u8 (Z4 .or .u64 (Zx .u64 y1 45) (Zn .u64 y2 6)),wrap .u8 (Zx .u64 y2 2),wrap .u8 (Zx .u64 y2 10),wrap .u8 (Zx .u64 y2 18),wrap .u8 (Zx .u64 y2 26),wrap .u8 (Zx .u64 y2 34),wrap .u8 (Zx .u64 y2 42),wrap .u8 (Z4 .or .u64 (Zx .u64 y2 50) (Zn .u64 y3 1)),wrap .u8 (Zx .u64 y3 7),wrap .u8 (Zx .u64 y3 15),wrap .u8 (Zx .u64 y3 23),wrap .u8 (Zx .u64 y3 31),wrap .u8 (Zx .u64 y3 39),wrap .u8 (Z4 .or .u64 (Zx .u64 y3 47) (Zn .u64 y4 4)),wrap .u8 (Zx .u64 y4 4),wrap .u8 (Zx .u64 y4 12),wrap .u8 (Zx .u64 y4 20),wrap .u8 (Zx .u64 y4 28),wrap .u8 (Zx .u64 y4 36),wrap .u8 (Zx .u64 y4 44)]:=by kernel_rfl
theorem Z2h (x:Int) (n:Nat) (h:n<=64):Zx .u64 x (n:Int)=x / ((2^n:Nat):Int):=Z9z .u64 h
theorem Z0ds {n:Int} (h0:0<=n):wrap .u8 (Zx .u64 (n%2251799813685248) 0)=n%256:=by
 have:=Z2h (n%2251799813685248) 0 (by decide)
 rw [show ((2^0:Nat):Int)=1 from rfl] at this
 refine (congrArg _ this).trans ?_
 rw [Z0u]
 omega
theorem Z0dt {n:Int} (h0:0<=n):wrap .u8 (Zx .u64 (n%2251799813685248) 8)=n / 256%256:=by
 have:=Z2h (n%2251799813685248) 8 (by decide)
 rw [show ((2^8:Nat):Int)=256 from rfl] at this
 refine (congrArg _ this).trans ?_
 rw [Z0u]
 omega
theorem Z0du {n:Int} (h0:0<=n):wrap .u8 (Zx .u64 (n%2251799813685248) 16)=n / 65536%256:=by
 have:=Z2h (n%2251799813685248) 16 (by decide)
 rw [show ((2^16:Nat):Int)=65536 from rfl] at this
 refine (congrArg _ this).trans ?_
 rw [Z0u]
 omega
theorem Z0dv {n:Int} (h0:0<=n):wrap .u8 (Zx .u64 (n%2251799813685248) 24)=n / 16777216%256:=by
 have:=Z2h (n%2251799813685248) 24 (by decide)
 rw [show ((2^24:Nat):Int)=16777216 from rfl] at this
 refine (congrArg _ this).trans ?_
 rw [Z0u]
 omega
theorem Z0dw {n:Int} (h0:0<=n):wrap .u8 (Zx .u64 (n%2251799813685248) 32)=n / 4294967296%256:=by
 have:=Z2h (n%2251799813685248) 32 (by decide)
 rw [show ((2^32:Nat):Int)=4294967296 from rfl] at this
 refine (congrArg _ this).trans ?_
 rw [Z0u]
 omega
theorem Z0dx {n:Int} (h0:0<=n):wrap .u8 (Zx .u64 (n%2251799813685248) 40)=n / 1099511627776%256:=by
 have:=Z2h (n%2251799813685248) 40 (by decide)
 rw [show ((2^40:Nat):Int)=1099511627776 from rfl] at this
 refine (congrArg _ this).trans ?_
 rw [Z0u]
 omega
theorem Z0dy {n:Int} (h0:0<=n):wrap .u8 (Z4 .or .u64 (Zx .u64 (n%2251799813685248) 48) (Zn .u64 (n / 2251799813685248%2251799813685248) 3))=n / 281474976710656%256:=by
 have e1:Zx .u64 (n%2251799813685248) 48=n / 281474976710656%8:=by
  have:=Z2h (n%2251799813685248) 48 (by decide)
  rw [show ((2^48:Nat):Int)=281474976710656 from rfl] at this
  refine this.trans ?_
  omega
 have e2:Zn .u64 (n / 2251799813685248%2251799813685248) 3=(n / 2251799813685248%2251799813685248)*8:=by
  have:=Zis .u64 (x:=n / 2251799813685248%2251799813685248) (n:=3) (by decide)
  rw [show ((2^3:Nat):Int)=8 from rfl] at this
  refine this.trans (Ze (by omega) (by omega))
 rw [e1,e2,Z14 3 (x:=(n / 2251799813685248%2251799813685248)*8) (y:=n / 281474976710656%8) (a:=n / 2251799813685248%2251799813685248) rfl (by omega) (by omega) (by show _<(8:Int); omega) (by omega),Z0u]
 omega
theorem Z0dz {n:Int} (h0:0<=n):wrap .u8 (Zx .u64 (n / 2251799813685248%2251799813685248) 5)=n / 72057594037927936%256:=by
 have:=Z2h (n / 2251799813685248%2251799813685248) 5 (by decide)
 rw [show ((2^5:Nat):Int)=32 from rfl] at this
 refine (congrArg _ this).trans ?_
 rw [Z0u]
 omega
theorem Z0e0 {n:Int} (h0:0<=n):wrap .u8 (Zx .u64 (n / 2251799813685248%2251799813685248) 13)=n / 18446744073709551616%256:=by
 have:=Z2h (n / 2251799813685248%2251799813685248) 13 (by decide)
 rw [show ((2^13:Nat):Int)=8192 from rfl] at this
 refine (congrArg _ this).trans ?_
 rw [Z0u]
 omega
theorem Z0e1 {n:Int} (h0:0<=n):wrap .u8 (Zx .u64 (n / 2251799813685248%2251799813685248) 21)=n / 4722366482869645213696%256:=by
 have:=Z2h (n / 2251799813685248%2251799813685248) 21 (by decide)
 rw [show ((2^21:Nat):Int)=2097152 from rfl] at this
 refine (congrArg _ this).trans ?_
 rw [Z0u]
 omega
theorem Z09r {n:Int} (h0:0<=n):wrap .u8 (Zx .u64 (n / 2251799813685248%2251799813685248) 29)=n / 1208925819614629174706176%256:=by
 have:=Z2h (n / 2251799813685248%2251799813685248) 29 (by decide)
 rw [show ((2^29:Nat):Int)=536870912 from rfl] at this
 refine (congrArg _ this).trans ?_
 rw [Z0u]
 omega
theorem Z09s {n:Int} (h0:0<=n):wrap .u8 (Zx .u64 (n / 2251799813685248%2251799813685248) 37)=n / 309485009821345068724781056%256:=by
 have:=Z2h (n / 2251799813685248%2251799813685248) 37 (by decide)
 rw [show ((2^37:Nat):Int)=137438953472 from rfl] at this
 refine (congrArg _ this).trans ?_
 rw [Z0u]
 omega
theorem Z09t {n:Int} (h0:0<=n):wrap .u8 (Z4 .or .u64 (Zx .u64 (n / 2251799813685248%2251799813685248) 45) (Zn .u64 (n / 5070602400912917605986812821504%2251799813685248) 6))=n / 79228162514264337593543950336%256:=by
 have e1:Zx .u64 (n / 2251799813685248%2251799813685248) 45=n / 79228162514264337593543950336%64:=by
  have:=Z2h (n / 2251799813685248%2251799813685248) 45 (by decide)
  rw [show ((2^45:Nat):Int)=35184372088832 from rfl] at this
  refine this.trans ?_
  omega
 have e2:Zn .u64 (n / 5070602400912917605986812821504%2251799813685248) 6=(n / 5070602400912917605986812821504%2251799813685248)*64:=by
  have:=Zis .u64 (x:=n / 5070602400912917605986812821504%2251799813685248) (n:=6) (by decide)
  rw [show ((2^6:Nat):Int)=64 from rfl] at this
  refine this.trans (Ze (by omega) (by omega))
 rw [e1,e2,Z14 6 (x:=(n / 5070602400912917605986812821504%2251799813685248)*64) (y:=n / 79228162514264337593543950336%64) (a:=n / 5070602400912917605986812821504%2251799813685248) rfl (by omega) (by omega) (by show _<(64:Int); omega) (by omega),Z0u]
 omega
theorem Z09u {n:Int} (h0:0<=n):wrap .u8 (Zx .u64 (n / 5070602400912917605986812821504%2251799813685248) 2)=n / 20282409603651670423947251286016%256:=by
 have:=Z2h (n / 5070602400912917605986812821504%2251799813685248) 2 (by decide)
 rw [show ((2^2:Nat):Int)=4 from rfl] at this
 refine (congrArg _ this).trans ?_
 rw [Z0u]
 omega
theorem Z09v {n:Int} (h0:0<=n):wrap .u8 (Zx .u64 (n / 5070602400912917605986812821504%2251799813685248) 10)=n / 5192296858534827628530496329220096%256:=by
 have:=Z2h (n / 5070602400912917605986812821504%2251799813685248) 10 (by decide)
 rw [show ((2^10:Nat):Int)=1024 from rfl] at this
 refine (congrArg _ this).trans ?_
 rw [Z0u]
 omega
theorem Z09w {n:Int} (h0:0<=n):wrap .u8 (Zx .u64 (n / 5070602400912917605986812821504%2251799813685248) 18)=n / 1329227995784915872903807060280344576%256:=by
 have:=Z2h (n / 5070602400912917605986812821504%2251799813685248) 18 (by decide)
 rw [show ((2^18:Nat):Int)=262144 from rfl] at this
 refine (congrArg _ this).trans ?_
 rw [Z0u]
 omega
theorem Z09x {n:Int} (h0:0<=n):wrap .u8 (Zx .u64 (n / 5070602400912917605986812821504%2251799813685248) 26)=n / 340282366920938463463374607431768211456%256:=by
 have:=Z2h (n / 5070602400912917605986812821504%2251799813685248) 26 (by decide)
 rw [show ((2^26:Nat):Int)=67108864 from rfl] at this
 refine (congrArg _ this).trans ?_
 rw [Z0u]
 omega
theorem Z09y {n:Int} (h0:0<=n):wrap .u8 (Zx .u64 (n / 5070602400912917605986812821504%2251799813685248) 34)=n / 87112285931760246646623899502532662132736%256:=by
 have:=Z2h (n / 5070602400912917605986812821504%2251799813685248) 34 (by decide)
 rw [show ((2^34:Nat):Int)=17179869184 from rfl] at this
 refine (congrArg _ this).trans ?_
 rw [Z0u]
 omega
theorem Z09z {n:Int} (h0:0<=n):wrap .u8 (Zx .u64 (n / 5070602400912917605986812821504%2251799813685248) 42)=n / 22300745198530623141535718272648361505980416%256:=by
 have:=Z2h (n / 5070602400912917605986812821504%2251799813685248) 42 (by decide)
 rw [show ((2^42:Nat):Int)=4398046511104 from rfl] at this
 refine (congrArg _ this).trans ?_
 rw [Z0u]
 omega
theorem Z0a0 {n:Int} (h0:0<=n):wrap .u8 (Z4 .or .u64 (Zx .u64 (n / 5070602400912917605986812821504%2251799813685248) 50) (Zn .u64 (n / 11417981541647679048466287755595961091061972992%2251799813685248) 1))=n / 5708990770823839524233143877797980545530986496%256:=by
 have e1:Zx .u64 (n / 5070602400912917605986812821504%2251799813685248) 50=n / 5708990770823839524233143877797980545530986496%2:=by
  have:=Z2h (n / 5070602400912917605986812821504%2251799813685248) 50 (by decide)
  rw [show ((2^50:Nat):Int)=1125899906842624 from rfl] at this
  refine this.trans ?_
  omega
 have e2:Zn .u64 (n / 11417981541647679048466287755595961091061972992%2251799813685248) 1=(n / 11417981541647679048466287755595961091061972992%2251799813685248)*2:=by
  have:=Zis .u64 (x:=n / 11417981541647679048466287755595961091061972992%2251799813685248) (n:=1) (by decide)
  rw [show ((2^1:Nat):Int)=2 from rfl] at this
  refine this.trans (Ze (by omega) (by omega))
 rw [e1,e2,Z14 1 (x:=(n / 11417981541647679048466287755595961091061972992%2251799813685248)*2) (y:=n / 5708990770823839524233143877797980545530986496%2) (a:=n / 11417981541647679048466287755595961091061972992%2251799813685248) rfl (by omega) (by omega) (by show _<(2:Int); omega) (by omega),Z0u]
 omega
theorem Z0a1 {n:Int} (h0:0<=n):wrap .u8 (Zx .u64 (n / 11417981541647679048466287755595961091061972992%2251799813685248) 7)=n / 1461501637330902918203684832716283019655932542976%256:=by
 have:=Z2h (n / 11417981541647679048466287755595961091061972992%2251799813685248) 7 (by decide)
 rw [show ((2^7:Nat):Int)=128 from rfl] at this
 refine (congrArg _ this).trans ?_
 rw [Z0u]
 omega
theorem Z0a2 {n:Int} (h0:0<=n):wrap .u8 (Zx .u64 (n / 11417981541647679048466287755595961091061972992%2251799813685248) 15)=n / 374144419156711147060143317175368453031918731001856%256:=by
 have:=Z2h (n / 11417981541647679048466287755595961091061972992%2251799813685248) 15 (by decide)
 rw [show ((2^15:Nat):Int)=32768 from rfl] at this
 refine (congrArg _ this).trans ?_
 rw [Z0u]
 omega
theorem Z0a3 {n:Int} (h0:0<=n):wrap .u8 (Zx .u64 (n / 11417981541647679048466287755595961091061972992%2251799813685248) 23)=n / 95780971304118053647396689196894323976171195136475136%256:=by
 have:=Z2h (n / 11417981541647679048466287755595961091061972992%2251799813685248) 23 (by decide)
 rw [show ((2^23:Nat):Int)=8388608 from rfl] at this
 refine (congrArg _ this).trans ?_
 rw [Z0u]
 omega
theorem Z0a4 {n:Int} (h0:0<=n):wrap .u8 (Zx .u64 (n / 11417981541647679048466287755595961091061972992%2251799813685248) 31)=n / 24519928653854221733733552434404946937899825954937634816%256:=by
 have:=Z2h (n / 11417981541647679048466287755595961091061972992%2251799813685248) 31 (by decide)
 rw [show ((2^31:Nat):Int)=2147483648 from rfl] at this
 refine (congrArg _ this).trans ?_
 rw [Z0u]
 omega
theorem Z0a5 {n:Int} (h0:0<=n):wrap .u8 (Zx .u64 (n / 11417981541647679048466287755595961091061972992%2251799813685248) 39)=n / 6277101735386680763835789423207666416102355444464034512896%256:=by
 have:=Z2h (n / 11417981541647679048466287755595961091061972992%2251799813685248) 39 (by decide)
 rw [show ((2^39:Nat):Int)=549755813888 from rfl] at this
 refine (congrArg _ this).trans ?_
 rw [Z0u]
 omega
theorem Z0a6 {n:Int} (h0:0<=n):wrap .u8 (Z4 .or .u64 (Zx .u64 (n / 11417981541647679048466287755595961091061972992%2251799813685248) 47) (Zn .u64 (n / 25711008708143844408671393477458601640355247900524685364822016%2251799813685248) 4))=n / 1606938044258990275541962092341162602522202993782792835301376%256:=by
 have e1:Zx .u64 (n / 11417981541647679048466287755595961091061972992%2251799813685248) 47=n / 1606938044258990275541962092341162602522202993782792835301376%16:=by
  have:=Z2h (n / 11417981541647679048466287755595961091061972992%2251799813685248) 47 (by decide)
  rw [show ((2^47:Nat):Int)=140737488355328 from rfl] at this
  refine this.trans ?_
  omega
 have e2:Zn .u64 (n / 25711008708143844408671393477458601640355247900524685364822016%2251799813685248) 4=(n / 25711008708143844408671393477458601640355247900524685364822016%2251799813685248)*16:=by
  have:=Zis .u64 (x:=n / 25711008708143844408671393477458601640355247900524685364822016%2251799813685248) (n:=4) (by decide)
  rw [show ((2^4:Nat):Int)=16 from rfl] at this
  refine this.trans (Ze (by omega) (by omega))
 rw [e1,e2,Z14 4 (x:=(n / 25711008708143844408671393477458601640355247900524685364822016%2251799813685248)*16) (y:=n / 1606938044258990275541962092341162602522202993782792835301376%16) (a:=n / 25711008708143844408671393477458601640355247900524685364822016%2251799813685248) rfl (by omega) (by omega) (by show _<(16:Int); omega) (by omega),Z0u]
 omega
theorem Z0a7 {n:Int} (h0:0<=n) (h1:n<57896044618658097711785492504343953926634992332820282019728792003956564819949):wrap .u8 (Zx .u64 (n / 25711008708143844408671393477458601640355247900524685364822016%2251799813685248) 4)=n / 411376139330301510538742295639337626245683966408394965837152256%256:=by
 have:=Z2h (n / 25711008708143844408671393477458601640355247900524685364822016%2251799813685248) 4 (by decide)
 rw [show ((2^4:Nat):Int)=16 from rfl] at this
 refine (congrArg _ this).trans ?_
 rw [Z0u]
 omega
theorem Z0a8 {n:Int} (h0:0<=n) (h1:n<57896044618658097711785492504343953926634992332820282019728792003956564819949):wrap .u8 (Zx .u64 (n / 25711008708143844408671393477458601640355247900524685364822016%2251799813685248) 12)=n / 105312291668557186697918027683670432318895095400549111254310977536%256:=by
 have:=Z2h (n / 25711008708143844408671393477458601640355247900524685364822016%2251799813685248) 12 (by decide)
 rw [show ((2^12:Nat):Int)=4096 from rfl] at this
 refine (congrArg _ this).trans ?_
 rw [Z0u]
 omega
theorem Z0a9 {n:Int} (h0:0<=n) (h1:n<57896044618658097711785492504343953926634992332820282019728792003956564819949):wrap .u8 (Zx .u64 (n / 25711008708143844408671393477458601640355247900524685364822016%2251799813685248) 20)=n / 26959946667150639794667015087019630673637144422540572481103610249216%256:=by
 have:=Z2h (n / 25711008708143844408671393477458601640355247900524685364822016%2251799813685248) 20 (by decide)
 rw [show ((2^20:Nat):Int)=1048576 from rfl] at this
 refine (congrArg _ this).trans ?_
 rw [Z0u]
 omega
theorem Z0aa {n:Int} (h0:0<=n) (h1:n<57896044618658097711785492504343953926634992332820282019728792003956564819949):wrap .u8 (Zx .u64 (n / 25711008708143844408671393477458601640355247900524685364822016%2251799813685248) 28)=n / 6901746346790563787434755862277025452451108972170386555162524223799296%256:=by
 have:=Z2h (n / 25711008708143844408671393477458601640355247900524685364822016%2251799813685248) 28 (by decide)
 rw [show ((2^28:Nat):Int)=268435456 from rfl] at this
 refine (congrArg _ this).trans ?_
 rw [Z0u]
 omega
theorem Z0ab {n:Int} (h0:0<=n) (h1:n<57896044618658097711785492504343953926634992332820282019728792003956564819949):wrap .u8 (Zx .u64 (n / 25711008708143844408671393477458601640355247900524685364822016%2251799813685248) 36)=n / 1766847064778384329583297500742918515827483896875618958121606201292619776%256:=by
 have:=Z2h (n / 25711008708143844408671393477458601640355247900524685364822016%2251799813685248) 36 (by decide)
 rw [show ((2^36:Nat):Int)=68719476736 from rfl] at this
 refine (congrArg _ this).trans ?_
 rw [Z0u]
 omega
theorem Z0ac {n:Int} (h0:0<=n) (h1:n<57896044618658097711785492504343953926634992332820282019728792003956564819949):wrap .u8 (Zx .u64 (n / 25711008708143844408671393477458601640355247900524685364822016%2251799813685248) 44)=n / 452312848583266388373324160190187140051835877600158453279131187530910662656%256:=by
 have:=Z2h (n / 25711008708143844408671393477458601640355247900524685364822016%2251799813685248) 44 (by decide)
 rw [show ((2^44:Nat):Int)=17592186044416 from rfl] at this
 refine (congrArg _ this).trans ?_
 rw [Z0u]
 omega
theorem Z05k {x:LI} (hx:U5 x):Zd7 x=some (byt (Z8w x%PP)):=by
 rw [Zd7,Z3 (Zbm hx),Z1v]
 have h0:0<=Z8w x%PP:=Int.emod_nonneg _ (by decide)
 have h1:Z8w x%PP<PP:=Int.emod_lt_of_pos _ Zoi
 unfold Zql
 generalize Z8w x%PP=n at *
 have e:Zoy n = [n%2251799813685248,n / 2251799813685248%2251799813685248,n / 5070602400912917605986812821504%2251799813685248,n / 11417981541647679048466287755595961091061972992%2251799813685248,n / 25711008708143844408671393477458601640355247900524685364822016%2251799813685248]:=rfl
 rw [e,Z01h,Z0ds h0,Z0dt h0,Z0du h0,Z0dv h0,Z0dw h0,Z0dx h0,Z0dy h0,Z0dz h0,Z0e0 h0,Z0e1 h0,Z09r h0,Z09s h0,Z09t h0,Z09u h0,Z09v h0,Z09w h0,Z09x h0,Z09y h0,Z09z h0,Z0a0 h0,Z0a1 h0,Z0a2 h0,Z0a3 h0,Z0a4 h0,Z0a5 h0,Z0a6 h0,Z0a7 h0 h1,Z0a8 h0 h1,Z0a9 h0 h1,Z0aa h0 h1,Z0ab h0 h1,Z0ac h0 h1]
 rfl
theorem Z0e9 (k:LI->Option (LI)) (x:LI):Z47 x k big 0 (List.replicate 5 0)=k [Z4 .or .u64 (Z4 .or .u64 (Z4 .or .u64 (Z4 .or .u64 (Z4 .or .u64 (Z4 .or .u64 (Z4 .or .u64 (0) (Z4 .and .u64 (Zn .u64 (wrap .u64 (x.getD 0 0)) 0) 2251799813685247)) (Z4 .and .u64 (Zn .u64 (wrap .u64 (x.getD 1 0)) 8) 2251799813685247)) (Z4 .and .u64 (Zn .u64 (wrap .u64 (x.getD 2 0)) 16) 2251799813685247)) (Z4 .and .u64 (Zn .u64 (wrap .u64 (x.getD 3 0)) 24) 2251799813685247)) (Z4 .and .u64 (Zn .u64 (wrap .u64 (x.getD 4 0)) 32) 2251799813685247)) (Z4 .and .u64 (Zn .u64 (wrap .u64 (x.getD 5 0)) 40) 2251799813685247)) (Z4 .and .u64 (Zn .u64 (wrap .u64 (x.getD 6 0)) 48) 2251799813685247),
 Z4 .or .u64 (Z4 .or .u64 (Z4 .or .u64 (Z4 .or .u64 (Z4 .or .u64 (Z4 .or .u64 (Z4 .or .u64 (0) (Zx .u64 (wrap .u64 (x.getD 6 0)) 3)) (Z4 .and .u64 (Zn .u64 (wrap .u64 (x.getD 7 0)) 5) 2251799813685247)) (Z4 .and .u64 (Zn .u64 (wrap .u64 (x.getD 8 0)) 13) 2251799813685247)) (Z4 .and .u64 (Zn .u64 (wrap .u64 (x.getD 9 0)) 21) 2251799813685247)) (Z4 .and .u64 (Zn .u64 (wrap .u64 (x.getD 10 0)) 29) 2251799813685247)) (Z4 .and .u64 (Zn .u64 (wrap .u64 (x.getD 11 0)) 37) 2251799813685247)) (Z4 .and .u64 (Zn .u64 (wrap .u64 (x.getD 12 0)) 45) 2251799813685247),
 Z4 .or .u64 (Z4 .or .u64 (Z4 .or .u64 (Z4 .or .u64 (Z4 .or .u64 (Z4 .or .u64 (Z4 .or .u64 (Z4 .or .u64 (0) (Zx .u64 (wrap .u64 (x.getD 12 0)) 6)) (Z4 .and .u64 (Zn .u64 (wrap .u64 (x.getD 13 0)) 2) 2251799813685247)) (Z4 .and .u64 (Zn .u64 (wrap .u64 (x.getD 14 0)) 10) 2251799813685247)) (Z4 .and .u64 (Zn .u64 (wrap .u64 (x.getD 15 0)) 18) 2251799813685247)) (Z4 .and .u64 (Zn .u64 (wrap .u64 (x.getD 16 0)) 26) 2251799813685247)) (Z4 .and .u64 (Zn .u64 (wrap .u64 (x.getD 17 0)) 34) 2251799813685247)) (Z4 .and .u64 (Zn .u64 (wrap .u64 (x.getD 18 0)) 42) 2251799813685247)) (Z4 .and .u64 (Zn .u64 (wrap .u64 (x.getD 19 0)) 50) 2251799813685247),
 Z4 .or .u64 (Z4 .or .u64 (Z4 .or .u64 (Z4 .or .u64 (Z4 .or .u64 (Z4 .or .u64 (Z4 .or .u64 (0) (Zx .u64 (wrap .u64 (x.getD 19 0)) 1)) (Z4 .and .u64 (Zn .u64 (wrap .u64 (x.getD 20 0)) 7) 2251799813685247)) (Z4 .and .u64 (Zn .u64 (wrap .u64 (x.getD 21 0)) 15) 2251799813685247)) (Z4 .and .u64 (Zn .u64 (wrap .u64 (x.getD 22 0)) 23) 2251799813685247)) (Z4 .and .u64 (Zn .u64 (wrap .u64 (x.getD 23 0)) 31) 2251799813685247)) (Z4 .and .u64 (Zn .u64 (wrap .u64 (x.getD 24 0)) 39) 2251799813685247)) (Z4 .and .u64 (Zn .u64 (wrap .u64 (x.getD 25 0)) 47) 2251799813685247),
 Z4 .or .u64 (Z4 .or .u64 (Z4 .or .u64 (Z4 .or .u64 (Z4 .or .u64 (Z4 .or .u64 (Z4 .or .u64 (0) (Zx .u64 (wrap .u64 (x.getD 25 0)) 4)) (Z4 .and .u64 (Zn .u64 (wrap .u64 (x.getD 26 0)) 4) 2251799813685247)) (Z4 .and .u64 (Zn .u64 (wrap .u64 (x.getD 27 0)) 12) 2251799813685247)) (Z4 .and .u64 (Zn .u64 (wrap .u64 (x.getD 28 0)) 20) 2251799813685247)) (Z4 .and .u64 (Zn .u64 (wrap .u64 (x.getD 29 0)) 28) 2251799813685247)) (Z4 .and .u64 (Zn .u64 (wrap .u64 (x.getD 30 0)) 36) 2251799813685247)) (Z4 .and .u64 (Zn .u64 (wrap .u64 (Z4 .and .u8 (x.getD 31 0) 127)) 44) 2251799813685247)]:=by kernel_rfl
theorem Z1m (k:Nat) {b:Int} (hk:k<=51) (hb:0<=b/\b<256):Z4 .and .u64 (Zn .u64 (wrap .u64 b) (k:Int)) 2251799813685247=b%((2^(51-k):Nat):Int)*((2^k:Nat):Int):=by
 have hp:(0:Int)<((2^k:Nat):Int):=by have:=Nat.pow_pos (n:=k) (show 0<2 by decide); omega
 have hq:(0:Int)<((2^(51-k):Nat):Int):=by have:=Nat.pow_pos (n:=51-k) (show 0<2 by decide); omega
 have hle:((2^k:Nat):Int)<=2251799813685248:=by
  have:=Nat.pow_le_pow_right (show 0<2 by decide) hk
  have e:(2^51:Nat)=2251799813685248:=by decide
  omega
 have hprod:((2^k:Nat):Int)*((2^(51-k):Nat):Int)=2251799813685248:=by
  rw [<- Int.natCast_mul,<- Nat.pow_add,show k+(51-k)=51 by omega]; rfl
 have hbk:b*((2^k:Nat):Int)<=256*2251799813685248:=Int.mul_le_mul (by omega) hle (by omega) (by omega)
 have hbk0:0<=b*((2^k:Nat):Int):=Int.mul_nonneg hb.1 (by omega)
 rw [Ze hb.1 (by omega),Zis .u64 (n:=k) (by show k<=64; omega),Ze hbk0 (by omega),Zsa hbk0 (by omega)]
 rw [<- hprod,Int.mul_comm b,Int.mul_emod_mul_of_pos _ _ hp,Int.mul_comm]
theorem Zo2 (k:Nat) {b:Int} (hk:k<=64) (hb:0<=b/\b<256):Zx .u64 (wrap .u64 b) (k:Int)=b / ((2^k:Nat):Int):=by
 rw [Ze hb.1 (by omega),Z9z .u64 hk]
theorem Z0kk {b0 b1 b2 b3 b4 b5 b6:Int} (h0:0<=b0/\b0<256) (h1:0<=b1/\b1<256) (h2:0<=b2/\b2<256) (h3:0<=b3/\b3<256) (h4:0<=b4/\b4<256) (h5:0<=b5/\b5<256) (h6:0<=b6/\b6<256):Z4 .or .u64 (Z4 .or .u64 (Z4 .or .u64 (Z4 .or .u64 (Z4 .or .u64 (Z4 .or .u64 (Z4 .or .u64 (0) (Z4 .and .u64 (Zn .u64 (wrap .u64 b0) 0) 2251799813685247)) (Z4 .and .u64 (Zn .u64 (wrap .u64 b1) 8) 2251799813685247)) (Z4 .and .u64 (Zn .u64 (wrap .u64 b2) 16) 2251799813685247)) (Z4 .and .u64 (Zn .u64 (wrap .u64 b3) 24) 2251799813685247)) (Z4 .and .u64 (Zn .u64 (wrap .u64 b4) 32) 2251799813685247)) (Z4 .and .u64 (Zn .u64 (wrap .u64 b5) 40) 2251799813685247)) (Z4 .and .u64 (Zn .u64 (wrap .u64 b6) 48) 2251799813685247)=0+b0*1+b1*256+b2*65536+b3*16777216+b4*4294967296+b5*1099511627776+b6%8*281474976710656:=by
 have p0:Z4 .and .u64 (Zn .u64 (wrap .u64 b0) 0) 2251799813685247=b0*1:=by
  have:=Z1m 0 (by decide) h0
  refine this.trans ?_
  rw [show ((2^(51-0):Nat):Int)=2251799813685248 from rfl,show ((2^0:Nat):Int)=1 from rfl]
  rw [Int.emod_eq_of_lt h0.1 (by omega)]
 rw [p0,Z14 0 (x:=b0*1) (y:=0) (a:=b0) (by simp) (by omega) (by omega) (by show _<(1:Int); omega) (by omega)]
 have p1:Z4 .and .u64 (Zn .u64 (wrap .u64 b1) 8) 2251799813685247=b1*256:=by
  have:=Z1m 8 (by decide) h1
  refine this.trans ?_
  rw [show ((2^(51-8):Nat):Int)=8796093022208 from rfl,show ((2^8:Nat):Int)=256 from rfl]
  rw [Int.emod_eq_of_lt h1.1 (by omega)]
 rw [p1,Z14 8 (x:=b1*256) (y:=0+b0*1) (a:=b1) (by simp) (by omega) (by omega) (by show _<(256:Int); omega) (by omega)]
 have p2:Z4 .and .u64 (Zn .u64 (wrap .u64 b2) 16) 2251799813685247=b2*65536:=by
  have:=Z1m 16 (by decide) h2
  refine this.trans ?_
  rw [show ((2^(51-16):Nat):Int)=34359738368 from rfl,show ((2^16:Nat):Int)=65536 from rfl]
  rw [Int.emod_eq_of_lt h2.1 (by omega)]
 rw [p2,Z14 16 (x:=b2*65536) (y:=0+b0*1+b1*256) (a:=b2) (by simp) (by omega) (by omega) (by show _<(65536:Int); omega) (by omega)]
 have p3:Z4 .and .u64 (Zn .u64 (wrap .u64 b3) 24) 2251799813685247=b3*16777216:=by
  have:=Z1m 24 (by decide) h3
  refine this.trans ?_
  rw [show ((2^(51-24):Nat):Int)=134217728 from rfl,show ((2^24:Nat):Int)=16777216 from rfl]
  rw [Int.emod_eq_of_lt h3.1 (by omega)]
 rw [p3,Z14 24 (x:=b3*16777216) (y:=0+b0*1+b1*256+b2*65536) (a:=b3) (by simp) (by omega) (by omega) (by show _<(16777216:Int); omega) (by omega)]
 have p4:Z4 .and .u64 (Zn .u64 (wrap .u64 b4) 32) 2251799813685247=b4*4294967296:=by
  have:=Z1m 32 (by decide) h4
  refine this.trans ?_
  rw [show ((2^(51-32):Nat):Int)=524288 from rfl,show ((2^32:Nat):Int)=4294967296 from rfl]
  rw [Int.emod_eq_of_lt h4.1 (by omega)]
 rw [p4,Z14 32 (x:=b4*4294967296) (y:=0+b0*1+b1*256+b2*65536+b3*16777216) (a:=b4) (by simp) (by omega) (by omega) (by show _<(4294967296:Int); omega) (by omega)]
 have p5:Z4 .and .u64 (Zn .u64 (wrap .u64 b5) 40) 2251799813685247=b5*1099511627776:=by
  have:=Z1m 40 (by decide) h5
  refine this.trans ?_
  rw [show ((2^(51-40):Nat):Int)=2048 from rfl,show ((2^40:Nat):Int)=1099511627776 from rfl]
  rw [Int.emod_eq_of_lt h5.1 (by omega)]
 rw [p5,Z14 40 (x:=b5*1099511627776) (y:=0+b0*1+b1*256+b2*65536+b3*16777216+b4*4294967296) (a:=b5) (by simp) (by omega) (by omega) (by show _<(1099511627776:Int); omega) (by omega)]
 have p6:Z4 .and .u64 (Zn .u64 (wrap .u64 b6) 48) 2251799813685247=b6%8*281474976710656:=by
  have:=Z1m 48 (by decide) h6
  refine this.trans ?_
  rw [show ((2^(51-48):Nat):Int)=8 from rfl,show ((2^48:Nat):Int)=281474976710656 from rfl]
 rw [p6,Z14 48 (x:=b6%8*281474976710656) (y:=0+b0*1+b1*256+b2*65536+b3*16777216+b4*4294967296+b5*1099511627776) (a:=b6%8) (by simp) (by omega) (by omega) (by show _<(281474976710656:Int); omega) (by omega)]
theorem Z0kl {b6 b7 b8 b9 b10 b11 b12:Int} (h6:0<=b6/\b6<256) (h7:0<=b7/\b7<256) (h8:0<=b8/\b8<256) (h9:0<=b9/\b9<256) (h10:0<=b10/\b10<256) (h11:0<=b11/\b11<256) (h12:0<=b12/\b12<256):Z4 .or .u64 (Z4 .or .u64 (Z4 .or .u64 (Z4 .or .u64 (Z4 .or .u64 (Z4 .or .u64 (Z4 .or .u64 (0) (Zx .u64 (wrap .u64 b6) 3)) (Z4 .and .u64 (Zn .u64 (wrap .u64 b7) 5) 2251799813685247)) (Z4 .and .u64 (Zn .u64 (wrap .u64 b8) 13) 2251799813685247)) (Z4 .and .u64 (Zn .u64 (wrap .u64 b9) 21) 2251799813685247)) (Z4 .and .u64 (Zn .u64 (wrap .u64 b10) 29) 2251799813685247)) (Z4 .and .u64 (Zn .u64 (wrap .u64 b11) 37) 2251799813685247)) (Z4 .and .u64 (Zn .u64 (wrap .u64 b12) 45) 2251799813685247)=0+b6 / 8+b7*32+b8*8192+b9*2097152+b10*536870912+b11*137438953472+b12%64*35184372088832:=by
 have p0:Zx .u64 (wrap .u64 b6) 3=b6 / 8:=by
  have:=Zo2 3 (by decide) h6
  refine this.trans ?_
  rw [show ((2^3:Nat):Int)=8 from rfl]
 rw [p0,Z14 0 (x:=b6 / 8) (y:=0) (a:=b6 / 8) (by simp) (by omega) (by omega) (by show _<(1:Int); omega) (by omega)]
 have p1:Z4 .and .u64 (Zn .u64 (wrap .u64 b7) 5) 2251799813685247=b7*32:=by
  have:=Z1m 5 (by decide) h7
  refine this.trans ?_
  rw [show ((2^(51-5):Nat):Int)=70368744177664 from rfl,show ((2^5:Nat):Int)=32 from rfl]
  rw [Int.emod_eq_of_lt h7.1 (by omega)]
 rw [p1,Z14 5 (x:=b7*32) (y:=0+b6 / 8) (a:=b7) (by simp) (by omega) (by omega) (by show _<(32:Int); omega) (by omega)]
 have p2:Z4 .and .u64 (Zn .u64 (wrap .u64 b8) 13) 2251799813685247=b8*8192:=by
  have:=Z1m 13 (by decide) h8
  refine this.trans ?_
  rw [show ((2^(51-13):Nat):Int)=274877906944 from rfl,show ((2^13:Nat):Int)=8192 from rfl]
  rw [Int.emod_eq_of_lt h8.1 (by omega)]
 rw [p2,Z14 13 (x:=b8*8192) (y:=0+b6 / 8+b7*32) (a:=b8) (by simp) (by omega) (by omega) (by show _<(8192:Int); omega) (by omega)]
 have p3:Z4 .and .u64 (Zn .u64 (wrap .u64 b9) 21) 2251799813685247=b9*2097152:=by
  have:=Z1m 21 (by decide) h9
  refine this.trans ?_
  rw [show ((2^(51-21):Nat):Int)=1073741824 from rfl,show ((2^21:Nat):Int)=2097152 from rfl]
  rw [Int.emod_eq_of_lt h9.1 (by omega)]
 rw [p3,Z14 21 (x:=b9*2097152) (y:=0+b6 / 8+b7*32+b8*8192) (a:=b9) (by simp) (by omega) (by omega) (by show _<(2097152:Int); omega) (by omega)]
 have p4:Z4 .and .u64 (Zn .u64 (wrap .u64 b10) 29) 2251799813685247=b10*536870912:=by
  have:=Z1m 29 (by decide) h10
  refine this.trans ?_
  rw [show ((2^(51-29):Nat):Int)=4194304 from rfl,show ((2^29:Nat):Int)=536870912 from rfl]
  rw [Int.emod_eq_of_lt h10.1 (by omega)]
 rw [p4,Z14 29 (x:=b10*536870912) (y:=0+b6 / 8+b7*32+b8*8192+b9*2097152) (a:=b10) (by simp) (by omega) (by omega) (by show _<(536870912:Int); omega) (by omega)]
 have p5:Z4 .and .u64 (Zn .u64 (wrap .u64 b11) 37) 2251799813685247=b11*137438953472:=by
  have:=Z1m 37 (by decide) h11
  refine this.trans ?_
  rw [show ((2^(51-37):Nat):Int)=16384 from rfl,show ((2^37:Nat):Int)=137438953472 from rfl]
  rw [Int.emod_eq_of_lt h11.1 (by omega)]
 rw [p5,Z14 37 (x:=b11*137438953472) (y:=0+b6 / 8+b7*32+b8*8192+b9*2097152+b10*536870912) (a:=b11) (by simp) (by omega) (by omega) (by show _<(137438953472:Int); omega) (by omega)]
 have p6:Z4 .and .u64 (Zn .u64 (wrap .u64 b12) 45) 2251799813685247=b12%64*35184372088832:=by
  have:=Z1m 45 (by decide) h12
  refine this.trans ?_
  rw [show ((2^(51-45):Nat):Int)=64 from rfl,show ((2^45:Nat):Int)=35184372088832 from rfl]
 rw [p6,Z14 45 (x:=b12%64*35184372088832) (y:=0+b6 / 8+b7*32+b8*8192+b9*2097152+b10*536870912+b11*137438953472) (a:=b12%64) (by simp) (by omega) (by omega) (by show _<(35184372088832:Int); omega) (by omega)]
theorem Z0km {b12 b13 b14 b15 b16 b17 b18 b19:Int} (h12:0<=b12/\b12<256) (h13:0<=b13/\b13<256) (h14:0<=b14/\b14<256) (h15:0<=b15/\b15<256) (h16:0<=b16/\b16<256) (h17:0<=b17/\b17<256) (h18:0<=b18/\b18<256) (h19:0<=b19/\b19<256):Z4 .or .u64 (Z4 .or .u64 (Z4 .or .u64 (Z4 .or .u64 (Z4 .or .u64 (Z4 .or .u64 (Z4 .or .u64 (Z4 .or .u64 (0) (Zx .u64 (wrap .u64 b12) 6)) (Z4 .and .u64 (Zn .u64 (wrap .u64 b13) 2) 2251799813685247)) (Z4 .and .u64 (Zn .u64 (wrap .u64 b14) 10) 2251799813685247)) (Z4 .and .u64 (Zn .u64 (wrap .u64 b15) 18) 2251799813685247)) (Z4 .and .u64 (Zn .u64 (wrap .u64 b16) 26) 2251799813685247)) (Z4 .and .u64 (Zn .u64 (wrap .u64 b17) 34) 2251799813685247)) (Z4 .and .u64 (Zn .u64 (wrap .u64 b18) 42) 2251799813685247)) (Z4 .and .u64 (Zn .u64 (wrap .u64 b19) 50) 2251799813685247)=0+b12 / 64+b13*4+b14*1024+b15*262144+b16*67108864+b17*17179869184+b18*4398046511104+b19%2*1125899906842624:=by
 have p0:Zx .u64 (wrap .u64 b12) 6=b12 / 64:=by
  have:=Zo2 6 (by decide) h12
  refine this.trans ?_
  rw [show ((2^6:Nat):Int)=64 from rfl]
 rw [p0,Z14 0 (x:=b12 / 64) (y:=0) (a:=b12 / 64) (by simp) (by omega) (by omega) (by show _<(1:Int); omega) (by omega)]
 have p1:Z4 .and .u64 (Zn .u64 (wrap .u64 b13) 2) 2251799813685247=b13*4:=by
  have:=Z1m 2 (by decide) h13
  refine this.trans ?_
  rw [show ((2^(51-2):Nat):Int)=562949953421312 from rfl,show ((2^2:Nat):Int)=4 from rfl]
  rw [Int.emod_eq_of_lt h13.1 (by omega)]
 rw [p1,Z14 2 (x:=b13*4) (y:=0+b12 / 64) (a:=b13) (by simp) (by omega) (by omega) (by show _<(4:Int); omega) (by omega)]
 have p2:Z4 .and .u64 (Zn .u64 (wrap .u64 b14) 10) 2251799813685247=b14*1024:=by
  have:=Z1m 10 (by decide) h14
  refine this.trans ?_
  rw [show ((2^(51-10):Nat):Int)=2199023255552 from rfl,show ((2^10:Nat):Int)=1024 from rfl]
  rw [Int.emod_eq_of_lt h14.1 (by omega)]
 rw [p2,Z14 10 (x:=b14*1024) (y:=0+b12 / 64+b13*4) (a:=b14) (by simp) (by omega) (by omega) (by show _<(1024:Int); omega) (by omega)]
 have p3:Z4 .and .u64 (Zn .u64 (wrap .u64 b15) 18) 2251799813685247=b15*262144:=by
  have:=Z1m 18 (by decide) h15
  refine this.trans ?_
  rw [show ((2^(51-18):Nat):Int)=8589934592 from rfl,show ((2^18:Nat):Int)=262144 from rfl]
  rw [Int.emod_eq_of_lt h15.1 (by omega)]
 rw [p3,Z14 18 (x:=b15*262144) (y:=0+b12 / 64+b13*4+b14*1024) (a:=b15) (by simp) (by omega) (by omega) (by show _<(262144:Int); omega) (by omega)]
 have p4:Z4 .and .u64 (Zn .u64 (wrap .u64 b16) 26) 2251799813685247=b16*67108864:=by
  have:=Z1m 26 (by decide) h16
  refine this.trans ?_
  rw [show ((2^(51-26):Nat):Int)=33554432 from rfl,show ((2^26:Nat):Int)=67108864 from rfl]
  rw [Int.emod_eq_of_lt h16.1 (by omega)]
 rw [p4,Z14 26 (x:=b16*67108864) (y:=0+b12 / 64+b13*4+b14*1024+b15*262144) (a:=b16) (by simp) (by omega) (by omega) (by show _<(67108864:Int); omega) (by omega)]
 have p5:Z4 .and .u64 (Zn .u64 (wrap .u64 b17) 34) 2251799813685247=b17*17179869184:=by
  have:=Z1m 34 (by decide) h17
  refine this.trans ?_
  rw [show ((2^(51-34):Nat):Int)=131072 from rfl,show ((2^34:Nat):Int)=17179869184 from rfl]
  rw [Int.emod_eq_of_lt h17.1 (by omega)]
 rw [p5,Z14 34 (x:=b17*17179869184) (y:=0+b12 / 64+b13*4+b14*1024+b15*262144+b16*67108864) (a:=b17) (by simp) (by omega) (by omega) (by show _<(17179869184:Int); omega) (by omega)]
 have p6:Z4 .and .u64 (Zn .u64 (wrap .u64 b18) 42) 2251799813685247=b18*4398046511104:=by
  have:=Z1m 42 (by decide) h18
  refine this.trans ?_
  rw [show ((2^(51-42):Nat):Int)=512 from rfl,show ((2^42:Nat):Int)=4398046511104 from rfl]
  rw [Int.emod_eq_of_lt h18.1 (by omega)]
 rw [p6,Z14 42 (x:=b18*4398046511104) (y:=0+b12 / 64+b13*4+b14*1024+b15*262144+b16*67108864+b17*17179869184) (a:=b18) (by simp) (by omega) (by omega) (by show _<(4398046511104:Int); omega) (by omega)]
 have p7:Z4 .and .u64 (Zn .u64 (wrap .u64 b19) 50) 2251799813685247=b19%2*1125899906842624:=by
  have:=Z1m 50 (by decide) h19
  refine this.trans ?_
  rw [show ((2^(51-50):Nat):Int)=2 from rfl,show ((2^50:Nat):Int)=1125899906842624 from rfl]
 rw [p7,Z14 50 (x:=b19%2*1125899906842624) (y:=0+b12 / 64+b13*4+b14*1024+b15*262144+b16*67108864+b17*17179869184+b18*4398046511104) (a:=b19%2) (by simp) (by omega) (by omega) (by show _<(1125899906842624:Int); omega) (by omega)]
theorem Z0kn {b19 b20 b21 b22 b23 b24 b25:Int} (h19:0<=b19/\b19<256) (h20:0<=b20/\b20<256) (h21:0<=b21/\b21<256) (h22:0<=b22/\b22<256) (h23:0<=b23/\b23<256) (h24:0<=b24/\b24<256) (h25:0<=b25/\b25<256):Z4 .or .u64 (Z4 .or .u64 (Z4 .or .u64 (Z4 .or .u64 (Z4 .or .u64 (Z4 .or .u64 (Z4 .or .u64 (0) (Zx .u64 (wrap .u64 b19) 1)) (Z4 .and .u64 (Zn .u64 (wrap .u64 b20) 7) 2251799813685247)) (Z4 .and .u64 (Zn .u64 (wrap .u64 b21) 15) 2251799813685247)) (Z4 .and .u64 (Zn .u64 (wrap .u64 b22) 23) 2251799813685247)) (Z4 .and .u64 (Zn .u64 (wrap .u64 b23) 31) 2251799813685247)) (Z4 .and .u64 (Zn .u64 (wrap .u64 b24) 39) 2251799813685247)) (Z4 .and .u64 (Zn .u64 (wrap .u64 b25) 47) 2251799813685247)=0+b19 / 2+b20*128+b21*32768+b22*8388608+b23*2147483648+b24*549755813888+b25%16*140737488355328:=by
 have p0:Zx .u64 (wrap .u64 b19) 1=b19 / 2:=by
  have:=Zo2 1 (by decide) h19
  refine this.trans ?_
  rw [show ((2^1:Nat):Int)=2 from rfl]
 rw [p0,Z14 0 (x:=b19 / 2) (y:=0) (a:=b19 / 2) (by simp) (by omega) (by omega) (by show _<(1:Int); omega) (by omega)]
 have p1:Z4 .and .u64 (Zn .u64 (wrap .u64 b20) 7) 2251799813685247=b20*128:=by
  have:=Z1m 7 (by decide) h20
  refine this.trans ?_
  rw [show ((2^(51-7):Nat):Int)=17592186044416 from rfl,show ((2^7:Nat):Int)=128 from rfl]
  rw [Int.emod_eq_of_lt h20.1 (by omega)]
 rw [p1,Z14 7 (x:=b20*128) (y:=0+b19 / 2) (a:=b20) (by simp) (by omega) (by omega) (by show _<(128:Int); omega) (by omega)]
 have p2:Z4 .and .u64 (Zn .u64 (wrap .u64 b21) 15) 2251799813685247=b21*32768:=by
  have:=Z1m 15 (by decide) h21
  refine this.trans ?_
  rw [show ((2^(51-15):Nat):Int)=68719476736 from rfl,show ((2^15:Nat):Int)=32768 from rfl]
  rw [Int.emod_eq_of_lt h21.1 (by omega)]
 rw [p2,Z14 15 (x:=b21*32768) (y:=0+b19 / 2+b20*128) (a:=b21) (by simp) (by omega) (by omega) (by show _<(32768:Int); omega) (by omega)]
 have p3:Z4 .and .u64 (Zn .u64 (wrap .u64 b22) 23) 2251799813685247=b22*8388608:=by
  have:=Z1m 23 (by decide) h22
  refine this.trans ?_
  rw [show ((2^(51-23):Nat):Int)=268435456 from rfl,show ((2^23:Nat):Int)=8388608 from rfl]
  rw [Int.emod_eq_of_lt h22.1 (by omega)]
 rw [p3,Z14 23 (x:=b22*8388608) (y:=0+b19 / 2+b20*128+b21*32768) (a:=b22) (by simp) (by omega) (by omega) (by show _<(8388608:Int); omega) (by omega)]
 have p4:Z4 .and .u64 (Zn .u64 (wrap .u64 b23) 31) 2251799813685247=b23*2147483648:=by
  have:=Z1m 31 (by decide) h23
  refine this.trans ?_
  rw [show ((2^(51-31):Nat):Int)=1048576 from rfl,show ((2^31:Nat):Int)=2147483648 from rfl]
  rw [Int.emod_eq_of_lt h23.1 (by omega)]
 rw [p4,Z14 31 (x:=b23*2147483648) (y:=0+b19 / 2+b20*128+b21*32768+b22*8388608) (a:=b23) (by simp) (by omega) (by omega) (by show _<(2147483648:Int); omega) (by omega)]
 have p5:Z4 .and .u64 (Zn .u64 (wrap .u64 b24) 39) 2251799813685247=b24*549755813888:=by
  have:=Z1m 39 (by decide) h24
  refine this.trans ?_
  rw [show ((2^(51-39):Nat):Int)=4096 from rfl,show ((2^39:Nat):Int)=549755813888 from rfl]
  rw [Int.emod_eq_of_lt h24.1 (by omega)]
 rw [p5,Z14 39 (x:=b24*549755813888) (y:=0+b19 / 2+b20*128+b21*32768+b22*8388608+b23*2147483648) (a:=b24) (by simp) (by omega) (by omega) (by show _<(549755813888:Int); omega) (by omega)]
 have p6:Z4 .and .u64 (Zn .u64 (wrap .u64 b25) 47) 2251799813685247=b25%16*140737488355328:=by
  have:=Z1m 47 (by decide) h25
  refine this.trans ?_
  rw [show ((2^(51-47):Nat):Int)=16 from rfl,show ((2^47:Nat):Int)=140737488355328 from rfl]
 rw [p6,Z14 47 (x:=b25%16*140737488355328) (y:=0+b19 / 2+b20*128+b21*32768+b22*8388608+b23*2147483648+b24*549755813888) (a:=b25%16) (by simp) (by omega) (by omega) (by show _<(140737488355328:Int); omega) (by omega)]
theorem Z0ko {b25 b26 b27 b28 b29 b30 b31:Int} (h25:0<=b25/\b25<256) (h26:0<=b26/\b26<256) (h27:0<=b27/\b27<256) (h28:0<=b28/\b28<256) (h29:0<=b29/\b29<256) (h30:0<=b30/\b30<256) (h31:0<=b31/\b31<256):Z4 .or .u64 (Z4 .or .u64 (Z4 .or .u64 (Z4 .or .u64 (Z4 .or .u64 (Z4 .or .u64 (Z4 .or .u64 (0) (Zx .u64 (wrap .u64 b25) 4)) (Z4 .and .u64 (Zn .u64 (wrap .u64 b26) 4) 2251799813685247)) (Z4 .and .u64 (Zn .u64 (wrap .u64 b27) 12) 2251799813685247)) (Z4 .and .u64 (Zn .u64 (wrap .u64 b28) 20) 2251799813685247)) (Z4 .and .u64 (Zn .u64 (wrap .u64 b29) 28) 2251799813685247)) (Z4 .and .u64 (Zn .u64 (wrap .u64 b30) 36) 2251799813685247)) (Z4 .and .u64 (Zn .u64 (wrap .u64 b31) 44) 2251799813685247)=0+b25 / 16+b26*16+b27*4096+b28*1048576+b29*268435456+b30*68719476736+b31%128*17592186044416:=by
 have p0:Zx .u64 (wrap .u64 b25) 4=b25 / 16:=by
  have:=Zo2 4 (by decide) h25
  refine this.trans ?_
  rw [show ((2^4:Nat):Int)=16 from rfl]
 rw [p0,Z14 0 (x:=b25 / 16) (y:=0) (a:=b25 / 16) (by simp) (by omega) (by omega) (by show _<(1:Int); omega) (by omega)]
 have p1:Z4 .and .u64 (Zn .u64 (wrap .u64 b26) 4) 2251799813685247=b26*16:=by
  have:=Z1m 4 (by decide) h26
  refine this.trans ?_
  rw [show ((2^(51-4):Nat):Int)=140737488355328 from rfl,show ((2^4:Nat):Int)=16 from rfl]
  rw [Int.emod_eq_of_lt h26.1 (by omega)]
 rw [p1,Z14 4 (x:=b26*16) (y:=0+b25 / 16) (a:=b26) (by simp) (by omega) (by omega) (by show _<(16:Int); omega) (by omega)]
 have p2:Z4 .and .u64 (Zn .u64 (wrap .u64 b27) 12) 2251799813685247=b27*4096:=by
  have:=Z1m 12 (by decide) h27
  refine this.trans ?_
  rw [show ((2^(51-12):Nat):Int)=549755813888 from rfl,show ((2^12:Nat):Int)=4096 from rfl]
  rw [Int.emod_eq_of_lt h27.1 (by omega)]
 rw [p2,Z14 12 (x:=b27*4096) (y:=0+b25 / 16+b26*16) (a:=b27) (by simp) (by omega) (by omega) (by show _<(4096:Int); omega) (by omega)]
 have p3:Z4 .and .u64 (Zn .u64 (wrap .u64 b28) 20) 2251799813685247=b28*1048576:=by
  have:=Z1m 20 (by decide) h28
  refine this.trans ?_
  rw [show ((2^(51-20):Nat):Int)=2147483648 from rfl,show ((2^20:Nat):Int)=1048576 from rfl]
  rw [Int.emod_eq_of_lt h28.1 (by omega)]
 rw [p3,Z14 20 (x:=b28*1048576) (y:=0+b25 / 16+b26*16+b27*4096) (a:=b28) (by simp) (by omega) (by omega) (by show _<(1048576:Int); omega) (by omega)]
 have p4:Z4 .and .u64 (Zn .u64 (wrap .u64 b29) 28) 2251799813685247=b29*268435456:=by
  have:=Z1m 28 (by decide) h29
  refine this.trans ?_
  rw [show ((2^(51-28):Nat):Int)=8388608 from rfl,show ((2^28:Nat):Int)=268435456 from rfl]
  rw [Int.emod_eq_of_lt h29.1 (by omega)]
 rw [p4,Z14 28 (x:=b29*268435456) (y:=0+b25 / 16+b26*16+b27*4096+b28*1048576) (a:=b29) (by simp) (by omega) (by omega) (by show _<(268435456:Int); omega) (by omega)]
 have p5:Z4 .and .u64 (Zn .u64 (wrap .u64 b30) 36) 2251799813685247=b30*68719476736:=by
  have:=Z1m 36 (by decide) h30
  refine this.trans ?_
  rw [show ((2^(51-36):Nat):Int)=32768 from rfl,show ((2^36:Nat):Int)=68719476736 from rfl]
  rw [Int.emod_eq_of_lt h30.1 (by omega)]
 rw [p5,Z14 36 (x:=b30*68719476736) (y:=0+b25 / 16+b26*16+b27*4096+b28*1048576+b29*268435456) (a:=b30) (by simp) (by omega) (by omega) (by show _<(68719476736:Int); omega) (by omega)]
 have p6:Z4 .and .u64 (Zn .u64 (wrap .u64 b31) 44) 2251799813685247=b31%128*17592186044416:=by
  have:=Z1m 44 (by decide) h31
  refine this.trans ?_
  rw [show ((2^(51-44):Nat):Int)=128 from rfl,show ((2^44:Nat):Int)=17592186044416 from rfl]
 rw [p6,Z14 44 (x:=b31%128*17592186044416) (y:=0+b25 / 16+b26*16+b27*4096+b28*1048576+b29*268435456+b30*68719476736) (a:=b31%128) (by simp) (by omega) (by omega) (by show _<(17592186044416:Int); omega) (by omega)]
def Zze (x:LI):Int:=x.getD 0 0+x.getD 1 0*256+x.getD 2 0*65536+x.getD 3 0*16777216+x.getD 4 0*4294967296+x.getD 5 0*1099511627776+x.getD 6 0*281474976710656+x.getD 7 0*72057594037927936+x.getD 8 0*18446744073709551616+x.getD 9 0*4722366482869645213696+x.getD 10 0*1208925819614629174706176+x.getD 11 0*309485009821345068724781056+x.getD 12 0*79228162514264337593543950336+x.getD 13 0*20282409603651670423947251286016+x.getD 14 0*5192296858534827628530496329220096+x.getD 15 0*1329227995784915872903807060280344576+x.getD 16 0*340282366920938463463374607431768211456+x.getD 17 0*87112285931760246646623899502532662132736+x.getD 18 0*22300745198530623141535718272648361505980416+x.getD 19 0*5708990770823839524233143877797980545530986496+x.getD 20 0*1461501637330902918203684832716283019655932542976+x.getD 21 0*374144419156711147060143317175368453031918731001856+x.getD 22 0*95780971304118053647396689196894323976171195136475136+x.getD 23 0*24519928653854221733733552434404946937899825954937634816+x.getD 24 0*6277101735386680763835789423207666416102355444464034512896+x.getD 25 0*1606938044258990275541962092341162602522202993782792835301376+x.getD 26 0*411376139330301510538742295639337626245683966408394965837152256+x.getD 27 0*105312291668557186697918027683670432318895095400549111254310977536+x.getD 28 0*26959946667150639794667015087019630673637144422540572481103610249216+x.getD 29 0*6901746346790563787434755862277025452451108972170386555162524223799296+x.getD 30 0*1766847064778384329583297500742918515827483896875618958121606201292619776+x.getD 31 0%128*452312848583266388373324160190187140051835877600158453279131187530910662656
theorem Zmw {x:LI} (h:Byt x):Z5u x=some (fe (Zze x)):=by
 rw [Z5u,Z1v,Z0e9]
 have e31:Z4 .and .u8 (x.getD 31 0) 127=x.getD 31 0%128:=Znx 7 (by decide) (by decide) (h 31).1 (h 31).2
 have h31:0<=x.getD 31 0%128/\x.getD 31 0%128<256:=by have:=h 31; omega
 rw [e31,Z0kk (h 0) (h 1) (h 2) (h 3) (h 4) (h 5) (h 6),Z0kl (h 6) (h 7) (h 8) (h 9) (h 10) (h 11) (h 12),Z0km (h 12) (h 13) (h 14) (h 15) (h 16) (h 17) (h 18) (h 19),Z0kn (h 19) (h 20) (h 21) (h 22) (h 23) (h 24) (h 25),Z0ko (h 25) (h 26) (h 27) (h 28) (h 29) (h 30) h31]
 have g0:=h 0
 have g1:=h 1
 have g2:=h 2
 have g3:=h 3
 have g4:=h 4
 have g5:=h 5
 have g6:=h 6
 have g7:=h 7
 have g8:=h 8
 have g9:=h 9
 have g10:=h 10
 have g11:=h 11
 have g12:=h 12
 have g13:=h 13
 have g14:=h 14
 have g15:=h 15
 have g16:=h 16
 have g17:=h 17
 have g18:=h 18
 have g19:=h 19
 have g20:=h 20
 have g21:=h 21
 have g22:=h 22
 have g23:=h 23
 have g24:=h 24
 have g25:=h 25
 have g26:=h 26
 have g27:=h 27
 have g28:=h 28
 have g29:=h 29
 have g30:=h 30
 have g31:=h 31
 rw [Z3 (Zbm (U5.mk5 (by omega) (by omega) (by omega) (by omega) (by omega)))]
 unfold Zql fe
 congr 3
 simp only [Z8w,Zze,List.getD_cons_zero,List.getD_cons_succ]
 omega
end Go.Proofs.YtkjfpenagcdmcaaGreatDoor
namespace Go.Proofs.YtkjfpenagcdmcaaGreatDoor
open Go Go.Sx Go.RowKit
set_option linter.all false
set_option maxRecDepth 100000
theorem Zw6 (a:Int):a%PP%PP=a%PP:=Int.emod_emod_of_dvd _ (Int.dvd_refl _)
theorem fmul (a b:Int):Z1x (fe a) (fe b)=some (fe (a*b)):=by
 rw [Z02i (Zoz a) (Zoz b),Zbx,Zbx,<- Int.mul_emod]; rfl
theorem Zsg (a:Int):Z2c (fe a)=some (fe (a*a)):=by
 rw [Zvi (Zoz a),Zbx,<- Int.mul_emod]; rfl
theorem fadd (a b:Int):Z30 (fe a) (fe b)=some (fe (a+b)):=by
 rw [Z08h (Zoz a) (Zoz b),Zbx,Zbx,Zkt]
 exact (Int.add_emod _ _ _).symm
theorem fsub (a b:Int):Z5w (fe a) (fe b)=some (fe (a-b)):=by
 rw [Z0p1 (Zoz a) (Zoz b),Zbx,Zbx,Zkt]
 exact (Int.sub_emod _ _ _).symm
structure Q4 where
 x:Int
 y:Int
 z:Int
 t:Int
 deriving DecidableEq
def pt (q:Q4):Zl:=⟨fe q.x,fe q.y,fe q.z,fe q.t⟩
def qred (q:Q4):Q4:=⟨q.x%PP,q.y%PP,q.z%PP,q.t%PP⟩
theorem Z08v (q:Q4):pt (qred q)=pt q:=by simp only [pt,qred,Z0ea]
def D2:Int:=16295367250680780974490674513165176452449235426866156013048779062215315747161
def Zt0 (e f g h:Int):Q4:=⟨e*f,g*h,f*g,e*h⟩
def qadd (p q:Q4):Q4 :=
 let a:=(p.y-p.x)*(q.y-q.x)
 let b:=(p.y+p.x)*(q.y+q.x)
 let c:=p.t*D2*q.t
 let d:=(p.z+p.z)*q.z
 Zt0 (b-a) (d-c) (d+c) (b+a)
def qdbl (p:Q4):Q4 :=
 let a:=p.x*p.x
 let b:=p.y*p.y
 let z:=p.z*p.z
 let h:=a+b
 let e:=h-(p.x+p.y)*(p.x+p.y)
 let g:=a-b
 Zt0 e (z+z+g) g h
theorem Ztr (e f g h:Int):Z95 (fe e) (fe f) (fe g) (fe h)=some (pt (Zt0 e f g h)):=by
 rw [Z95,Z3 (fmul e f),Z3 (fmul g h),Z3 (fmul f g),Z3 (fmul e h)]; rfl
theorem Zzk:Z9l=some (fe D2):=by
 rw [Z9l,Zr]
 congr 1
theorem Z0ae (p q:Q4):Zcz (pt p) (pt q)=some (pt (qadd p q)):=by
 rw [Zcz]
 show opt (Z5w (fe p.y) (fe p.x)) _=_
 rw [Z3 (fsub p.y p.x)]
 show opt (Z5w (fe q.y) (fe q.x)) _=_
 rw [Z3 (fsub q.y q.x),Z3 (fmul _ _)]
 show opt (Z30 (fe p.y) (fe p.x)) _=_
 rw [Z3 (fadd p.y p.x)]
 show opt (Z30 (fe q.y) (fe q.x)) _=_
 rw [Z3 (fadd q.y q.x),Z3 (fmul _ _),Z3 Zzk]
 show opt (Z1x (fe p.t) (fe D2)) _=_
 rw [Z3 (fmul _ _)]
 show opt (Z1x (fe (p.t*D2)) (fe q.t)) _=_
 rw [Z3 (fmul _ _)]
 show opt (Z30 (fe p.z) (fe p.z)) _=_
 rw [Z3 (fadd _ _)]
 show opt (Z1x (fe (p.z+p.z)) (fe q.z)) _=_
 rw [Z3 (fmul _ _),Z3 (fsub _ _),Z3 (fsub _ _),Z3 (fadd _ _),Z3 (fadd _ _),Z3 (Ztr _ _ _ _)]
 rfl
theorem Z0ah (p:Q4):Z94 (pt p)=some (pt (qdbl p)):=by
 rw [Z94]
 show opt (Z2c (fe p.x)) _=_
 rw [Z3 (Zsg _)]
 show opt (Z2c (fe p.y)) _=_
 rw [Z3 (Zsg _)]
 show opt (Z2c (fe p.z)) _=_
 rw [Z3 (Zsg _),Z3 (fadd _ _)]
 show opt (Z30 (fe p.x) (fe p.y)) _=_
 rw [Z3 (fadd _ _),Z3 (Zsg _),Z3 (fsub _ _),Z3 (fsub _ _),Z3 (fadd _ _),Z3 (fadd _ _),Z3 (Ztr _ _ _ _)]
 rfl
def Z039:Q4:=⟨0,1,1,0⟩
theorem Zx7:Zaa=some (fe 1):=by rw [Zaa,Zr]; congr 1
theorem Z04z:Zck=some (pt Z039):=by
 rw [Zck,Z3 Zx7,Z3 Zx7]
 have:(List.replicate 5 0:LI)=fe 0:=by decide
 rw [this]; rfl
def Zwu (p q:Q4):Q4:=qred (qadd p q)
def Zii (p:Q4):Q4:=qred (qdbl p)
theorem Zxm (p q:Q4):Zcz (pt p) (pt q)=some (pt (Zwu p q)):=by rw [Z0ae]; unfold Zwu; rw [Z08v]
theorem Z05l (p:Q4):Z94 (pt p)=some (pt (Zii p)):=by rw [Z0ah]; unfold Zii; rw [Z08v]
def tab (p:Q4):Nat->Q4
 | 0=>Z039
 | i+1=>Zwu (tab p i) p
def Zz2 (f:Nat->Zl) (i:Nat):List Zl:=(List.range 16).map fun j=>if j<=i then f j else Z29
theorem Z085 (f:Nat->Zl) {i:Nat} (hi:i<15):Zh7 Z29 (Zz2 f i) (i+1) (f (i+1))=Zz2 f (i+1):=by
 rw [Zgs (by simp [Zz2]; omega)]
 apply List.ext_getElem
 ·simp [Zz2]
 ·intro j h1 h2
  simp only [Zz2,List.getElem_set,List.getElem_map,List.getElem_range]
  by_cases hj:i+1=j
  ·subst hj; simp
  ·rw [if_neg hj]
   by_cases h:j<=i
   ·rw [if_pos h,if_pos (by omega)]
   ·rw [if_neg h,if_neg (by omega)]
theorem Zz3 (f:Nat->Zl) {i j:Nat} (hj:j<=i) (hi:i<16):(Zz2 f i).getD j Z29=f j:=by
 simp only [Zz2,List.getD,List.getElem?_map,List.getElem?_range (show j<16 by omega),Option.map_some,Option.getD_some,if_pos hj]
theorem Zzw (p:Q4) {kk:List Zl->Option (List Zl)} {k':Int->List Zl->Option (List Zl)} {i:Nat} (hi:i<15) :
  Z46 (pt p) kk k' (i:Int) (Zz2 (fun j=>pt (tab p j)) i)=k' ((i+1:Nat):Int) (Zz2 (fun j=>pt (tab p j)) (i+1)):=by
 rw [Z46,Z1s (by simp; omega)]
 simp only [Zr]
 rw [Zk (by omega) (by omega),Z0b (Z19 (by omega) (by omega)),Int.toNat_natCast,Zz3 _ (Nat.le_refl i) (by omega),Z3 (Zxm _ _),Z0b (Z19 (by omega) (by omega))]
 have e:((i:Int)+1).toNat=i+1:=by omega
 have e2:(i:Int)+1=((i+1:Nat):Int):=by omega
 rw [e]
 have:=Z085 (fun j=>pt (tab p j)) hi
 rw [show pt (Zwu (tab p i) p)=pt (tab p (i+1)) from rfl,this,e2]
theorem Zu6 (p:Q4) : ∀ (k n:Nat),k<=15->Z2b (pt p) some (n+1+k) ((15-k:Nat):Int) (Zz2 (fun j=>pt (tab p j)) (15-k))=some (Zz2 (fun j=>pt (tab p j)) 15)
 | 0,n,_=>by
  rw [show n+1+0=n+1 from rfl,Z2b,Z46,Z1e (by decide)]
 | k+1,n,hk=>by
  have ih:=Zu6 p k n (by omega)
  rw [<- Nat.add_assoc,Z2b,Zzw p (by omega)]
  rw [show 15-(k+1)+1=15-k by omega]
  exact ih
theorem Zu7 (p:Q4):Z79 (pt p)=some (Zz2 (fun j=>pt (tab p j)) 15):=by
 rw [Z79,Z3 Z04z,Zr,Z1v]
 obtain ⟨n,hn⟩ : ∃ n,big=n+1+15:=⟨18446744073709551600,Z21⟩
 have:=Zu6 p 15 n (by decide)
 rw [<- hn] at this
 have e:Zh7 Z29 (List.replicate 16 Z29) 0 (pt Z039)=Zz2 (fun j=>pt (tab p j)) (15-15):=by
  rw [Zgs (by simp)]
  rfl
 rw [e]
 exact this
def nib (k:LI) (i:Nat):Int:=if i%2=0 then k.getD (31-i / 2) 0 / 16%16 else k.getD (31-i / 2) 0%16
theorem Z02m {k:LI} (hk:Byt k) {i:Nat} (hi:i<64):Zay k (i:Int)=some (nib k i):=by
 rw [Zay]
 simp only [Zr]
 have h1:IntKind.wrap .i64 (Int.tdiv (i:Int) 2)=((i / 2:Nat):Int):=by
  rw [Int.tdiv_eq_ediv_of_nonneg (by omega),Zk (by omega) (by omega)]; omega
 have h2:Int.tmod (i:Int) 2=((i%2:Nat):Int):=by
  rw [Int.tmod_eq_emod_of_nonneg (by omega)]; omega
 rw [h1,h2,Zk (x:=31-((i / 2:Nat):Int)) (by omega) (by omega),Z0b (Z19 (by omega) (by omega))]
 have h3:(31-((i / 2:Nat):Int)).toNat=31-i / 2:=by omega
 rw [h3]
 have hb:=hk (31-i / 2)
 rw [Zk (x:=1-((i%2:Nat):Int)) (by omega) (by omega),Zk (by omega) (by omega)]
 rcases Nat.mod_two_eq_zero_or_one i with h | h
 ·rw [h,Z0b (by decide)]
  have e:Zx .u8 (k.getD (31-i / 2) 0) (4*(1-((0:Nat):Int)))=k.getD (31-i / 2) 0 / 16:=Z9z .u8 (n:=4) (by decide)
  rw [e]
  have e2:Z4 .and .u8 (k.getD (31-i / 2) 0 / 16) 15=k.getD (31-i / 2) 0 / 16%16:=Znx 4 (by decide) (by decide) (by omega) (by omega)
  rw [e2,nib,if_pos h]
 ·rw [h,Z0b (by decide)]
  have e:Zx .u8 (k.getD (31-i / 2) 0) (4*(1-((1:Nat):Int)))=k.getD (31-i / 2) 0:=by
   have:=Z9z .u8 (x:=k.getD (31-i / 2) 0) (n:=0) (by decide)
   simpa using this
  rw [e]
  have e2:Z4 .and .u8 (k.getD (31-i / 2) 0) 15=k.getD (31-i / 2) 0%16:=Znx 4 (by decide) (by decide) (by omega) (by omega)
  rw [e2,nib,if_neg (by omega)]
theorem Z0bc (k:LI) (i:Nat):0<=nib k i/\nib k i<16:=by unfold nib; split <;> omega
def Zzh (q:Q4):Q4:=Zii (Zii (Zii (Zii q)))
def Z0m8 (k:LI) (p:Q4) (q:Q4) (i:Nat):Q4:=Zwu (Zzh q) (tab p (nib k i).toNat)
def Zuv (k:LI) (p:Q4):Nat->Q4
 | 0=>Z039
 | i+1=>Z0m8 k p (Zuv k p i) i
theorem Zzv (q:Q4) {kk:LI->LI->LI->LI->Option Zl} :
  Z4m kk big 0 (pt q).gX (pt q).gY (pt q).gZ (pt q).gT=kk (pt (Zzh q)).gX (pt (Zzh q)).gY (pt (Zzh q)).gZ (pt (Zzh q)).gT:=by
 obtain ⟨n,hn⟩ : ∃ n,big=n+1+1+1+1+1:=⟨18446744073709551611,Z21⟩
 have step : ∀ (n j:Nat) (q:Q4),j<4->Z4m kk (n+1) (j:Int) (pt q).gX (pt q).gY (pt q).gZ (pt q).gT =
   Z4m kk n ((j+1:Nat):Int) (pt (Zii q)).gX (pt (Zii q)).gY (pt (Zii q)).gZ (pt (Zii q)).gT:=by
  intro n j q hj
  rw [Z4m,Zax,Z1s (by simp; omega)]
  have:=Z05l q
  rw [show (⟨(pt q).gX,(pt q).gY,(pt q).gZ,(pt q).gT⟩:Zl)=pt q from rfl,Z3 this]
  simp only [Zr]
  rw [Zk (by omega) (by omega)]
  rfl
 rw [hn]
 have s0:=step (n+1+1+1+1) 0 q (by decide)
 have s1:=step (n+1+1+1) 1 (Zii q) (by decide)
 have s2:=step (n+1+1) 2 (Zii (Zii q)) (by decide)
 have s3:=step (n+1) 3 (Zii (Zii (Zii q))) (by decide)
 refine s0.trans (s1.trans (s2.trans (s3.trans ?_)))
 rw [Z4m,Zax,Z1e (by decide)]
 rfl
theorem Zri {k:LI} (hk:Byt k) (p:Q4) : ∀ (j n:Nat),j<=64->Z69 k (Zz2 (fun j=>pt (tab p j)) 15) (fun a b c d=>some ⟨a,b,c,d⟩) (n+1+j) ((64-j:Nat):Int) (pt (Zuv k p (64-j))).gX (pt (Zuv k p (64-j))).gY (pt (Zuv k p (64-j))).gZ (pt (Zuv k p (64-j))).gT=some (pt (Zuv k p 64))
 | 0,n,_=>by
  rw [show n+1+0=n+1 from rfl,Z69,Zaw,Z1e (by decide)]
 | j+1,n,hj=>by
  have ih:=Zri hk p j n (by omega)
  have hr:=Z0bc k (64-(j+1))
  rw [<- Nat.add_assoc,Z69,Zaw,Z1s (by simp; omega),Z1v,Zzv]
  rw [Z3 (Z02m hk (by omega)),Z0b (Z19 hr.1 hr.2),Zr,Zz3 _ (by omega) (by decide)]
  have hadd:=Zxm (Zzh (Zuv k p (64-(j+1)))) (tab p (nib k (64-(j+1))).toNat)
  rw [show (⟨(pt (Zzh (Zuv k p (64-(j+1))))).gX,(pt (Zzh (Zuv k p (64-(j+1))))).gY,(pt (Zzh (Zuv k p (64-(j+1))))).gZ,(pt (Zzh (Zuv k p (64-(j+1))))).gT⟩:Zl)=pt (Zzh (Zuv k p (64-(j+1)))) from rfl,Z3 hadd,Zr,Zk (by omega) (by omega)]
  have ei:((64-(j+1):Nat):Int)+1=((64-(j+1)+1:Nat):Int):=by omega
  rw [ei]
  have e:64-(j+1)+1=64-j:=by omega
  rw [e]
  have e2:Zwu (Zzh (Zuv k p (64-(j+1)))) (tab p (nib k (64-(j+1))).toNat)=Zuv k p (64-j):=by rw [<- e]; rfl
  rw [e2]
  exact ih
theorem Z0ai {k:LI} (hk:Byt k) (p:Q4):Zhg k (pt p)=some (pt (Zuv k p 64)):=by
 rw [Zhg,Z3 (Zu7 p),Z3 Z04z,Z1v]
 obtain ⟨n,hn⟩ : ∃ n,big=n+1+64:=⟨18446744073709551551,Z21⟩
 have:=Zri hk p 64 n (by decide)
 rw [<- hn] at this
 exact this
theorem byt_of {l:LI} (h : ∀ x∈l,0<=x/\x<256):Byt l:=by
 intro i
 simp only [List.getD]
 cases hi:l[i]? with
 | none=>simp
 | some v=>exact h v (List.mem_of_getElem? hi)
def BX:Int:=15112221349535400772501151409588531511454012693041857206046113283949847762202
def BY:Int:=46316835694926478169428394003475163141307993866256225615783033603165251855960
def Z0c6:Q4:=⟨BX,BY,1,BX*BY⟩
theorem Z04g (k:LI->Option Zl):Z6s k big 0 [88,0,0,0,0,0,0,0,0,0,0,0,0,0,0,0,0,0,0,0,0,0,0,0,0,0,0,0,0,0,0,0]=k [88,102,102,102,102,102,102,102,102,102,102,102,102,102,102,102,102,102,102,102,102,102,102,102,102,102,102,102,102,102,102,102]:=by kernel_rfl
theorem Z07y:Zd0=some (pt Z0c6):=by
 rw [Zd0,Zr,Z3 (Zmw (byt_of (by decide))),Zr,Z1v,Z04g,Z3 (Zmw (byt_of (by decide))),Z3 Zx7]
 have e1:Zze [26,213,37,143,96,45,86,201,178,167,37,149,96,199,44,105,92,220,214,253,49,226,164,192,254,83,110,205,211,54,105,33]=BX:=by decide
 have e2:Zze [88,102,102,102,102,102,102,102,102,102,102,102,102,102,102,102,102,102,102,102,102,102,102,102,102,102,102,102,102,102,102,102]=BY:=by decide
 rw [e1,e2,Z3 (fmul _ _)]
 rfl
theorem Zzu {k:LI} (hk:Byt k):Z6e k=some (pt (Zuv k Z0c6 64)):=by
 rw [Z6e,Z3 Z07y,Z3 (Z0ai hk _)]
def Zvr:LI:=[235,255,255,255,255,255,255,255,255,255,255,255,255,255,255,255,255,255,255,255,255,255,255,255,255,255,255,255,255,255,255,127]
theorem Z030:Zge 235 127=some Zvr:=by kernel_rfl
theorem Zxu:Byt Zvr:=byt_of (by decide)
def finv (a:Int):Int:=pw (a%PP) Zvr 256
theorem Z0eb {n:Int} (h:0<=n/\n<PP):Zoy n=fe n:=(Z061 h.1 h.2).symm
theorem Z0ei (a:Int):Z97 (fe a)=some (fe (finv a)):=by
 rw [Z97,Z3 Z030,Z3 (Z0lt (Zoz _) Zxu),Zbx,Z0eb (Z08w _ _ _)]
 rfl
def Zox (x y:Int):LI:=if x%PP%2=1 then Z2g (byt (y%PP)) 31 (Z4 .or .u8 ((byt (y%PP)).getD 31 0) 128) else byt (y%PP)
def encQ (q:Q4):LI:=Zox (q.x*finv q.z) (q.y*finv q.z)
theorem Z01t (q:Q4):Z78 (pt q)=some (encQ q):=by
 rw [Z78]
 show opt (Z97 (fe q.z)) _=_
 rw [Z3 (Z0ei _)]
 show opt (Z1x (fe q.y) (fe (finv q.z))) _=_
 rw [Z3 (fmul _ _),Z3 (Z05k (Zoz _))]
 show opt (Z1x (fe q.x) (fe (finv q.z))) _=_
 rw [Z3 (fmul _ _),Z3 (Z067 (Zoz _)),Z1v,Zbx,Zbx]
 simp only [Zr,Zw6]
 unfold encQ Zox
 by_cases h:q.x*finv q.z%PP%2=1
 ·rw [Z1s (by rw [h]; rfl),if_pos h]
 ·rw [Z1e (by simpa using h),if_neg h]
def ert:LI:=[251,255,255,255,255,255,255,255,255,255,255,255,255,255,255,255,255,255,255,255,255,255,255,255,255,255,255,255,255,255,255,31]
def fabs (a:Int):Int:=bif a%PP%2==1 then -a else a
def Z00l:Int:=pw (2%PP) ert 256
def DD:Int:=37095705934669439343138083508754565189542113879843219016388785533085940283555
theorem Zjg {p:LI} (h:Byt p) {j:Nat} {v:Int} (hv:0<=v/\v<256):Byt (Z2g p j v):=by
 intro i
 rw [Z1a]
 split
 ·exact hv
 ·exact h i
def W64 (l:LI):Prop:=∀ i,0<=l.getD i 0/\l.getD i 0<18446744073709551616
def V4 (l:LI):Int:=l.getD 0 0+l.getD 1 0*18446744073709551616+l.getD 2 0*340282366920938463463374607431768211456+l.getD 3 0*6277101735386680763835789423207666416102355444464034512896
def B4:Int:=115792089237316195423570985008687907853269984665640564039457584007913129639936
def VL:Int:=7237005577332262213973186563042994240857116359379907606001950938285454250989
theorem Zxb:V4 G_order=VL:=by decide
theorem Zs0 {l:LI} (h : ∀ x∈l,0<=x/\x<18446744073709551616):W64 l:=by
 intro i
 simp only [List.getD]
 cases hi:l[i]? with
 | none=>simp
 | some v=>exact h v (List.mem_of_getElem? hi)
theorem Zok:W64 G_order:=Zs0 (by decide)
theorem Zej {l:LI} (h:W64 l) {i:Nat} {z:Int} (hz:0<=z/\z<18446744073709551616):W64 (Z2g l i z):=by
 intro j; rw [Z1a]; split
 ·exact hz
 ·exact h j
theorem Zxd {l:LI} (h:W64 l) {i:Nat} {z:Int} (hz:0<=z/\z<18446744073709551616):W64 (Zh7 0 l i z):=by
 intro j; rw [Z3w]; split
 ·exact hz
 ·exact h j
theorem Zc5 (n:Nat):W64 (List.replicate n 0):=Zs0 (by intro x hx; rw [List.mem_replicate] at hx; omega)
theorem Z02t (x y:Int):0<=Z4 .or .u64 x y/\Z4 .or .u64 x y<18446744073709551616:=by
 show 0<=IntKind.u64.wrap _/\IntKind.u64.wrap _<_
 rw [Zh0]; omega
theorem Z018 (x y:Int):0<=Z4 .and .u64 x y/\Z4 .and .u64 x y<18446744073709551616:=by
 show 0<=IntKind.u64.wrap _/\IntKind.u64.wrap _<_
 rw [Zh0]; omega
theorem Z09k {x y c:Int} (hx:0<=x/\x<18446744073709551616) (hy:0<=y/\y<18446744073709551616) (hc:c=0∨c=1):Zh9 x y c=true:=by
 unfold Zh9
 rw [decide_eq_true hx.1,decide_eq_true hy.1,decide_eq_true (show 0<=c by omega),decide_eq_true (show c<=1 by omega)]; rfl
theorem Z0d0 {x y c:Int} (hx:0<=x/\x<18446744073709551616) (hy:0<=y/\y<18446744073709551616) (hc:c=0∨c=1):Z04i x y c=true:=by
 unfold Z04i
 rw [decide_eq_true hx.1,decide_eq_true hy.1,decide_eq_true hy.2,decide_eq_true (show 0<=c by omega),decide_eq_true (show c<=1 by omega)]; rfl
theorem Zj6 {q:LI} {k:Int->LI->Option (LI×Int)} {a:LI} {c:Int} (n:Nat) {i:Nat} (hi:i<4) (ha:W64 a) (hq:W64 q) (hc:c=0∨c=1) :
  ∃ c' lo,Z33 q k (n+1) c (i:Int) a=Z33 q k n c' ((i+1:Nat):Int) (Z2g a i lo)/\0<=lo/\lo<18446744073709551616/\(c'=0∨c'=1)/\lo=a.getD i 0-q.getD i 0-c+c'*18446744073709551616:=by
 have h1:=ha i
 have h2:=hq i
 refine ⟨Z07z (a.getD i 0) (q.getD i 0) c,Z080 (a.getD i 0) (q.getD i 0) c,?_,?_⟩
 ·rw [Z33,Z7q,Z1s (by simp; omega),Z0b (Z19 (by omega) (by omega)),Z0b (Z19 (by omega) (by omega)),Zr,Zr]
  simp only [Int.toNat_natCast]
  rw [Z0b (Z0d0 h1 h2 hc),Zr,Zr,Z0b (Z19 (by omega) (by omega)),Zr,Zr,Zk (by omega) (by omega)]
  rfl
 ·unfold Z07z Z080
  generalize a.getD i 0=x at *
  generalize q.getD i 0=y at *
  split <;> omega
theorem Zy5 {p q:LI} (hp:W64 p) (hq:W64 q) : ∃ a c,Z9f p q=some (a,c)/\W64 a/\(c=0∨c=1)/\V4 a=V4 p-V4 q+c*B4:=by
 obtain ⟨n,hn⟩ : ∃ n,big=n+1+1+1+1+1:=⟨18446744073709551611,Z21⟩
 rw [Z9f,Z1v,hn]
 obtain ⟨c0,l0,e0,b0,b0',hc0,v0⟩:=Zj6 (k:=fun i a=>some (a,i)) (n+1+1+1+1) (i:=0) (by decide) hp hq (.inl rfl)
 have w0:=Zej hp (i:=0) ⟨b0,b0'⟩
 obtain ⟨c1,l1,e1,b1,b1',hc1,v1⟩:=Zj6 (k:=fun i a=>some (a,i)) (n+1+1+1) (i:=1) (by decide) w0 hq hc0
 have w1:=Zej w0 (i:=1) ⟨b1,b1'⟩
 obtain ⟨c2,l2,e2,b2,b2',hc2,v2⟩:=Zj6 (k:=fun i a=>some (a,i)) (n+1+1) (i:=2) (by decide) w1 hq hc1
 have w2:=Zej w1 (i:=2) ⟨b2,b2'⟩
 obtain ⟨c3,l3,e3,b3,b3',hc3,v3⟩:=Zj6 (k:=fun i a=>some (a,i)) (n+1) (i:=3) (by decide) w2 hq hc2
 have w3:=Zej w2 (i:=3) ⟨b3,b3'⟩
 refine ⟨_,c3,(e0.trans (e1.trans (e2.trans (e3.trans ?_)))),w3,hc3,?_⟩
 ·rw [Z33,Z7q,Z1e (by decide)]
 ·simp only [V4,Z1a] at v1 v2 v3 ⊢
  simp [-List.getD_eq_getElem?_getD] at v1 v2 v3 ⊢
  unfold B4
  omega
theorem Zl5 {q:LI} {k:Int->LI->Option (LI×Int)} {a:LI} {c:Int} (n:Nat) {i:Nat} (hi:i<4) (ha:W64 a) (hq:W64 q) (hc:c=0∨c=1) :
  ∃ c' lo,Z3n q k (n+1) c (i:Int) a=Z3n q k n c' ((i+1:Nat):Int) (Z2g a i lo)/\0<=lo/\lo<18446744073709551616/\(c'=0∨c'=1)/\lo=a.getD i 0+q.getD i 0+c-c'*18446744073709551616:=by
 have h1:=ha i
 have h2:=hq i
 refine ⟨Zk4 (a.getD i 0) (q.getD i 0) c,Zcv (a.getD i 0) (q.getD i 0) c,?_,?_⟩
 ·rw [Z3n,Z8r,Z1s (by simp; omega),Z0b (Z19 (by omega) (by omega)),Z0b (Z19 (by omega) (by omega)),Zr,Zr]
  simp only [Int.toNat_natCast]
  rw [Z0b (Z09k h1 h2 hc),Zr,Zr,Z0b (Z19 (by omega) (by omega)),Zr,Zr,Zk (by omega) (by omega)]
  rfl
 ·unfold Zk4 Zcv
  generalize a.getD i 0=x at *
  generalize q.getD i 0=y at *
  omega
theorem Zsq {p q:LI} (hp:W64 p) (hq:W64 q) : ∃ a c,Z7r p q=some (a,c)/\W64 a/\(c=0∨c=1)/\V4 a=V4 p+V4 q-c*B4:=by
 obtain ⟨n,hn⟩ : ∃ n,big=n+1+1+1+1+1:=⟨18446744073709551611,Z21⟩
 rw [Z7r,Z1v,hn]
 obtain ⟨c0,l0,e0,b0,b0',hc0,v0⟩:=Zl5 (k:=fun i a=>some (a,i)) (n+1+1+1+1) (i:=0) (by decide) hp hq (.inl rfl)
 have w0:=Zej hp (i:=0) ⟨b0,b0'⟩
 obtain ⟨c1,l1,e1,b1,b1',hc1,v1⟩:=Zl5 (k:=fun i a=>some (a,i)) (n+1+1+1) (i:=1) (by decide) w0 hq hc0
 have w1:=Zej w0 (i:=1) ⟨b1,b1'⟩
 obtain ⟨c2,l2,e2,b2,b2',hc2,v2⟩:=Zl5 (k:=fun i a=>some (a,i)) (n+1+1) (i:=2) (by decide) w1 hq hc1
 have w2:=Zej w1 (i:=2) ⟨b2,b2'⟩
 obtain ⟨c3,l3,e3,b3,b3',hc3,v3⟩:=Zl5 (k:=fun i a=>some (a,i)) (n+1) (i:=3) (by decide) w2 hq hc2
 have w3:=Zej w2 (i:=3) ⟨b3,b3'⟩
 refine ⟨_,c3,(e0.trans (e1.trans (e2.trans (e3.trans ?_)))),w3,hc3,?_⟩
 ·rw [Z3n,Z8r,Z1e (by decide)]
 ·simp only [V4,Z1a] at v1 v2 v3 ⊢
  simp [-List.getD_eq_getElem?_getD] at v1 v2 v3 ⊢
  unfold B4
  omega
theorem Zjt {l:LI} (h:W64 l):0<=V4 l/\V4 l<B4:=by
 have h0:=h 0
 have h1:=h 1
 have h2:=h 2
 have h3:=h 3
 unfold V4 B4
 omega
theorem Zj3 {k2:LI->Option (LI)} {k5:Unit->Option (LI)} {a:LI} (n:Nat) {i:Nat} (hi:i<4) :
  Z13 k2 a k5 (n+1) (i:Int)=if a.getD i 0<G_order.getD i 0 then k2 a else if a.getD i 0>G_order.getD i 0 then k5 () else Z13 k2 a k5 n ((i:Int)-1):=by
 rw [Z13,Z7p,Z1s (by simp),Z0b (Z19 (by omega) (by omega)),Z0b (Z19 (by omega) (by omega)),Zr,Zr]
 simp only [Int.toNat_natCast]
 by_cases h1:a.getD i 0<G_order.getD i 0
 ·rw [Z1s (by simpa using h1),if_pos h1]
 ·rw [Z1e (by simpa using h1),if_neg h1,Z0b (Z19 (by omega) (by omega)),Z0b (Z19 (by omega) (by omega)),Zr,Zr]
  by_cases h2:a.getD i 0>G_order.getD i 0
  ·rw [Z1s (by simpa using h2),if_pos h2]
  ·rw [Z1e (by simpa using h2),if_neg h2,Zr,Zk (by omega) (by omega)]
theorem Zto {k2:LI->Option (LI)} {k5:Unit->Option (LI)} {a:LI} (ha:W64 a):Z13 k2 a k5 big 3=if V4 a<VL then k2 a else k5 ():=by
 obtain ⟨n,hn⟩ : ∃ n,big=n+1+1+1+1+1:=⟨18446744073709551611,Z21⟩
 rw [hn]
 have s3:=Zj3 (k2:=k2) (k5:=k5) (a:=a) (n+1+1+1+1) (i:=3) (by decide)
 have s2:=Zj3 (k2:=k2) (k5:=k5) (a:=a) (n+1+1+1) (i:=2) (by decide)
 have s1:=Zj3 (k2:=k2) (k5:=k5) (a:=a) (n+1+1) (i:=1) (by decide)
 have s0:=Zj3 (k2:=k2) (k5:=k5) (a:=a) (n+1) (i:=0) (by decide)
 have e:Z13 k2 a k5 (n+1) (-1)=k5 ():=by
  rw [Z13,Z7p,Z1e (by decide)]
 have o0:G_order.getD 0 0=6346243789798364141:=rfl
 have o1:G_order.getD 1 0=1503914060200516822:=rfl
 have o2:G_order.getD 2 0=0:=rfl
 have o3:G_order.getD 3 0=1152921504606846976:=rfl
 rw [o0] at s0
 rw [o1] at s1
 rw [o2] at s2
 rw [o3] at s3
 have s0':Z13 k2 a k5 (n+1+1) (1-1)=_:=s0
 have s1':Z13 k2 a k5 (n+1+1+1) (2-1)=_:=s1
 have s2':Z13 k2 a k5 (n+1+1+1+1) (3-1)=_:=s2
 have e':Z13 k2 a k5 (n+1) (0-1)=k5 ():=e
 have f3:Z13 k2 a k5 (n+1+1+1+1+1) 3=_:=s3
 rw [f3]
 rw [show ((3:Nat):Int)-1=3-1 from rfl,s2',show ((2:Nat):Int)-1=2-1 from rfl,s1',show ((1:Nat):Int)-1=1-1 from rfl,s0',show ((0:Nat):Int)-1=0-1 from rfl,e']
 have h0:=ha 0
 have h1:=ha 1
 have h2:=ha 2
 have h3:=ha 3
 unfold V4 VL
 generalize a.getD 0 0=a0 at *
 generalize a.getD 1 0=a1 at *
 generalize a.getD 2 0=a2 at *
 generalize a.getD 3 0=a3 at *
 by_cases hv:a0+a1*18446744073709551616+a2*340282366920938463463374607431768211456+a3*6277101735386680763835789423207666416102355444464034512896<7237005577332262213973186563042994240857116359379907606001950938285454250989
 ·rw [if_pos hv]
  repeat' split
  all_goals first | rfl | (exfalso; omega)
 ·rw [if_neg hv]
  repeat' split
  all_goals first | rfl | (exfalso; omega)
theorem Zzc (m:Nat) : ∀ (n:Nat) {a:LI},W64 a->V4 a<((m:Int)+1)*VL->∃ r,Z41 some (n+1+m) a=some r/\W64 r/\V4 r=V4 a%VL:=by
 induction m with
 | zero =>
  intro n a ha hv
  have h0:=Zjt ha
  have hv':V4 a<VL:=by omega
  refine ⟨a,?_,ha,?_⟩
  ·rw [Nat.add_zero,Z41,Z7o,Z1v,Zto ha,if_pos hv']
  ·rw [Int.emod_eq_of_lt h0.1 hv']
 | succ m ih =>
  intro n a ha hv
  have h0:=Zjt ha
  rw [<- Nat.add_assoc,Z41,Z7o,Z1v,Zto ha]
  by_cases h:V4 a<VL
  ·rw [if_pos h]
   exact ⟨a,rfl,ha,by rw [Int.emod_eq_of_lt h0.1 h]⟩
  ·rw [if_neg h]
   obtain ⟨b,c,e,hb,hc,hv2⟩:=Zy5 ha Zok
   have hbr:=Zjt hb
   rw [Zxb] at hv2
   have hc0:c=0:=by
    unfold B4 VL at *
    rcases hc with h | h
    ·exact h
    ·exfalso; subst h; omega
   rw [Z3 e]
   have hv3:V4 b=V4 a-VL:=by rw [hv2,hc0]; omega
   have hlt:V4 b<((m:Int)+1)*VL:=by
    rw [hv3]
    have:((m+1:Nat):Int)+1=((m:Int)+1)+1:=by omega
    rw [this,Int.add_mul ((m:Int)+1) 1 VL] at hv
    omega
   obtain ⟨r,er,hr,vr⟩:=ih n hb hlt
   exact ⟨r,er,hr,by rw [vr,hv3,Int.sub_emod_right]⟩
theorem Zxh {a:LI} (ha:W64 a) : ∃ r,Z9e a=some r/\W64 r/\V4 r=V4 a%VL:=by
 rw [Z9e,Z1v]
 obtain ⟨n,hn⟩ : ∃ n,big=n+1+16:=⟨18446744073709551599,Z21⟩
 rw [hn]
 have h:=Zjt ha
 exact Zzc 16 n ha (by unfold B4 at h; unfold VL; omega)
end Go.Proofs.YtkjfpenagcdmcaaGreatDoor
namespace Go.Proofs.YtkjfpenagcdmcaaGreatDoor
open Go Go.Sx Go.RowKit
open Go.IntKind (wrap)
set_option linter.all false
set_option maxRecDepth 100000
theorem Zzq (p:LI):Zdt p=some [Z4 .or .u64 (Z4 .or .u64 (Z4 .or .u64 (Z4 .or .u64 (Z4 .or .u64 (Z4 .or .u64 (Z4 .or .u64 (Z4 .or .u64 (0) (Zn .u64 (wrap .u64 (p.getD 0 0)) 0)) (Zn .u64 (wrap .u64 (p.getD 1 0)) 8)) (Zn .u64 (wrap .u64 (p.getD 2 0)) 16)) (Zn .u64 (wrap .u64 (p.getD 3 0)) 24)) (Zn .u64 (wrap .u64 (p.getD 4 0)) 32)) (Zn .u64 (wrap .u64 (p.getD 5 0)) 40)) (Zn .u64 (wrap .u64 (p.getD 6 0)) 48)) (Zn .u64 (wrap .u64 (p.getD 7 0)) 56),Z4 .or .u64 (Z4 .or .u64 (Z4 .or .u64 (Z4 .or .u64 (Z4 .or .u64 (Z4 .or .u64 (Z4 .or .u64 (Z4 .or .u64 (0) (Zn .u64 (wrap .u64 (p.getD 8 0)) 0)) (Zn .u64 (wrap .u64 (p.getD 9 0)) 8)) (Zn .u64 (wrap .u64 (p.getD 10 0)) 16)) (Zn .u64 (wrap .u64 (p.getD 11 0)) 24)) (Zn .u64 (wrap .u64 (p.getD 12 0)) 32)) (Zn .u64 (wrap .u64 (p.getD 13 0)) 40)) (Zn .u64 (wrap .u64 (p.getD 14 0)) 48)) (Zn .u64 (wrap .u64 (p.getD 15 0)) 56),Z4 .or .u64 (Z4 .or .u64 (Z4 .or .u64 (Z4 .or .u64 (Z4 .or .u64 (Z4 .or .u64 (Z4 .or .u64 (Z4 .or .u64 (0) (Zn .u64 (wrap .u64 (p.getD 16 0)) 0)) (Zn .u64 (wrap .u64 (p.getD 17 0)) 8)) (Zn .u64 (wrap .u64 (p.getD 18 0)) 16)) (Zn .u64 (wrap .u64 (p.getD 19 0)) 24)) (Zn .u64 (wrap .u64 (p.getD 20 0)) 32)) (Zn .u64 (wrap .u64 (p.getD 21 0)) 40)) (Zn .u64 (wrap .u64 (p.getD 22 0)) 48)) (Zn .u64 (wrap .u64 (p.getD 23 0)) 56),Z4 .or .u64 (Z4 .or .u64 (Z4 .or .u64 (Z4 .or .u64 (Z4 .or .u64 (Z4 .or .u64 (Z4 .or .u64 (Z4 .or .u64 (0) (Zn .u64 (wrap .u64 (p.getD 24 0)) 0)) (Zn .u64 (wrap .u64 (p.getD 25 0)) 8)) (Zn .u64 (wrap .u64 (p.getD 26 0)) 16)) (Zn .u64 (wrap .u64 (p.getD 27 0)) 24)) (Zn .u64 (wrap .u64 (p.getD 28 0)) 32)) (Zn .u64 (wrap .u64 (p.getD 29 0)) 40)) (Zn .u64 (wrap .u64 (p.getD 30 0)) 48)) (Zn .u64 (wrap .u64 (p.getD 31 0)) 56)]:=by kernel_rfl
theorem Zz9 (p:LI) (k:LI->Option (LI)):Z59 p k big 0 (List.replicate 8 0)=k [Z4 .or .u64 (Z4 .or .u64 (Z4 .or .u64 (Z4 .or .u64 (Z4 .or .u64 (Z4 .or .u64 (Z4 .or .u64 (Z4 .or .u64 (0) (Zn .u64 (wrap .u64 (p.getD 0 0)) 0)) (Zn .u64 (wrap .u64 (p.getD 1 0)) 8)) (Zn .u64 (wrap .u64 (p.getD 2 0)) 16)) (Zn .u64 (wrap .u64 (p.getD 3 0)) 24)) (Zn .u64 (wrap .u64 (p.getD 4 0)) 32)) (Zn .u64 (wrap .u64 (p.getD 5 0)) 40)) (Zn .u64 (wrap .u64 (p.getD 6 0)) 48)) (Zn .u64 (wrap .u64 (p.getD 7 0)) 56),Z4 .or .u64 (Z4 .or .u64 (Z4 .or .u64 (Z4 .or .u64 (Z4 .or .u64 (Z4 .or .u64 (Z4 .or .u64 (Z4 .or .u64 (0) (Zn .u64 (wrap .u64 (p.getD 8 0)) 0)) (Zn .u64 (wrap .u64 (p.getD 9 0)) 8)) (Zn .u64 (wrap .u64 (p.getD 10 0)) 16)) (Zn .u64 (wrap .u64 (p.getD 11 0)) 24)) (Zn .u64 (wrap .u64 (p.getD 12 0)) 32)) (Zn .u64 (wrap .u64 (p.getD 13 0)) 40)) (Zn .u64 (wrap .u64 (p.getD 14 0)) 48)) (Zn .u64 (wrap .u64 (p.getD 15 0)) 56),Z4 .or .u64 (Z4 .or .u64 (Z4 .or .u64 (Z4 .or .u64 (Z4 .or .u64 (Z4 .or .u64 (Z4 .or .u64 (Z4 .or .u64 (0) (Zn .u64 (wrap .u64 (p.getD 16 0)) 0)) (Zn .u64 (wrap .u64 (p.getD 17 0)) 8)) (Zn .u64 (wrap .u64 (p.getD 18 0)) 16)) (Zn .u64 (wrap .u64 (p.getD 19 0)) 24)) (Zn .u64 (wrap .u64 (p.getD 20 0)) 32)) (Zn .u64 (wrap .u64 (p.getD 21 0)) 40)) (Zn .u64 (wrap .u64 (p.getD 22 0)) 48)) (Zn .u64 (wrap .u64 (p.getD 23 0)) 56),Z4 .or .u64 (Z4 .or .u64 (Z4 .or .u64 (Z4 .or .u64 (Z4 .or .u64 (Z4 .or .u64 (Z4 .or .u64 (Z4 .or .u64 (0) (Zn .u64 (wrap .u64 (p.getD 24 0)) 0)) (Zn .u64 (wrap .u64 (p.getD 25 0)) 8)) (Zn .u64 (wrap .u64 (p.getD 26 0)) 16)) (Zn .u64 (wrap .u64 (p.getD 27 0)) 24)) (Zn .u64 (wrap .u64 (p.getD 28 0)) 32)) (Zn .u64 (wrap .u64 (p.getD 29 0)) 40)) (Zn .u64 (wrap .u64 (p.getD 30 0)) 48)) (Zn .u64 (wrap .u64 (p.getD 31 0)) 56),Z4 .or .u64 (Z4 .or .u64 (Z4 .or .u64 (Z4 .or .u64 (Z4 .or .u64 (Z4 .or .u64 (Z4 .or .u64 (Z4 .or .u64 (0) (Zn .u64 (wrap .u64 (p.getD 32 0)) 0)) (Zn .u64 (wrap .u64 (p.getD 33 0)) 8)) (Zn .u64 (wrap .u64 (p.getD 34 0)) 16)) (Zn .u64 (wrap .u64 (p.getD 35 0)) 24)) (Zn .u64 (wrap .u64 (p.getD 36 0)) 32)) (Zn .u64 (wrap .u64 (p.getD 37 0)) 40)) (Zn .u64 (wrap .u64 (p.getD 38 0)) 48)) (Zn .u64 (wrap .u64 (p.getD 39 0)) 56),Z4 .or .u64 (Z4 .or .u64 (Z4 .or .u64 (Z4 .or .u64 (Z4 .or .u64 (Z4 .or .u64 (Z4 .or .u64 (Z4 .or .u64 (0) (Zn .u64 (wrap .u64 (p.getD 40 0)) 0)) (Zn .u64 (wrap .u64 (p.getD 41 0)) 8)) (Zn .u64 (wrap .u64 (p.getD 42 0)) 16)) (Zn .u64 (wrap .u64 (p.getD 43 0)) 24)) (Zn .u64 (wrap .u64 (p.getD 44 0)) 32)) (Zn .u64 (wrap .u64 (p.getD 45 0)) 40)) (Zn .u64 (wrap .u64 (p.getD 46 0)) 48)) (Zn .u64 (wrap .u64 (p.getD 47 0)) 56),Z4 .or .u64 (Z4 .or .u64 (Z4 .or .u64 (Z4 .or .u64 (Z4 .or .u64 (Z4 .or .u64 (Z4 .or .u64 (Z4 .or .u64 (0) (Zn .u64 (wrap .u64 (p.getD 48 0)) 0)) (Zn .u64 (wrap .u64 (p.getD 49 0)) 8)) (Zn .u64 (wrap .u64 (p.getD 50 0)) 16)) (Zn .u64 (wrap .u64 (p.getD 51 0)) 24)) (Zn .u64 (wrap .u64 (p.getD 52 0)) 32)) (Zn .u64 (wrap .u64 (p.getD 53 0)) 40)) (Zn .u64 (wrap .u64 (p.getD 54 0)) 48)) (Zn .u64 (wrap .u64 (p.getD 55 0)) 56),Z4 .or .u64 (Z4 .or .u64 (Z4 .or .u64 (Z4 .or .u64 (Z4 .or .u64 (Z4 .or .u64 (Z4 .or .u64 (Z4 .or .u64 (0) (Zn .u64 (wrap .u64 (p.getD 56 0)) 0)) (Zn .u64 (wrap .u64 (p.getD 57 0)) 8)) (Zn .u64 (wrap .u64 (p.getD 58 0)) 16)) (Zn .u64 (wrap .u64 (p.getD 59 0)) 24)) (Zn .u64 (wrap .u64 (p.getD 60 0)) 32)) (Zn .u64 (wrap .u64 (p.getD 61 0)) 40)) (Zn .u64 (wrap .u64 (p.getD 62 0)) 48)) (Zn .u64 (wrap .u64 (p.getD 63 0)) 56)]:=by kernel_rfl
theorem Z04h (p:LI):Z7s p=some [wrap .u8 (p.getD 0 0),wrap .u8 (Zx .u64 (p.getD 0 0) 8),wrap .u8 (Zx .u64 (Zx .u64 (p.getD 0 0) 8) 8),wrap .u8 (Zx .u64 (Zx .u64 (Zx .u64 (p.getD 0 0) 8) 8) 8),wrap .u8 (Zx .u64 (Zx .u64 (Zx .u64 (Zx .u64 (p.getD 0 0) 8) 8) 8) 8),wrap .u8 (Zx .u64 (Zx .u64 (Zx .u64 (Zx .u64 (Zx .u64 (p.getD 0 0) 8) 8) 8) 8) 8),wrap .u8 (Zx .u64 (Zx .u64 (Zx .u64 (Zx .u64 (Zx .u64 (Zx .u64 (p.getD 0 0) 8) 8) 8) 8) 8) 8),wrap .u8 (Zx .u64 (Zx .u64 (Zx .u64 (Zx .u64 (Zx .u64 (Zx .u64 (Zx .u64 (p.getD 0 0) 8) 8) 8) 8) 8) 8) 8),wrap .u8 (p.getD 1 0),wrap .u8 (Zx .u64 (p.getD 1 0) 8),wrap .u8 (Zx .u64 (Zx .u64 (p.getD 1 0) 8) 8),wrap .u8 (Zx .u64 (Zx .u64 (Zx .u64 (p.getD 1 0) 8) 8) 8),wrap .u8 (Zx .u64 (Zx .u64 (Zx .u64 (Zx .u64 (p.getD 1 0) 8) 8) 8) 8),wrap .u8 (Zx .u64 (Zx .u64 (Zx .u64 (Zx .u64 (Zx .u64 (p.getD 1 0) 8) 8) 8) 8) 8),wrap .u8 (Zx .u64 (Zx .u64 (Zx .u64 (Zx .u64 (Zx .u64 (Zx .u64 (p.getD 1 0) 8) 8) 8) 8) 8) 8),wrap .u8 (Zx .u64 (Zx .u64 (Zx .u64 (Zx .u64 (Zx .u64 (Zx .u64 (Zx .u64 (p.getD 1 0) 8) 8) 8) 8) 8) 8) 8),wrap .u8 (p.getD 2 0),wrap .u8 (Zx .u64 (p.getD 2 0) 8),wrap .u8 (Zx .u64 (Zx .u64 (p.getD 2 0) 8) 8),wrap .u8 (Zx .u64 (Zx .u64 (Zx .u64 (p.getD 2 0) 8) 8) 8),wrap .u8 (Zx .u64 (Zx .u64 (Zx .u64 (Zx .u64 (p.getD 2 0) 8) 8) 8) 8),wrap .u8 (Zx .u64 (Zx .u64 (Zx .u64 (Zx .u64 (Zx .u64 (p.getD 2 0) 8) 8) 8) 8) 8),wrap .u8 (Zx .u64 (Zx .u64 (Zx .u64 (Zx .u64 (Zx .u64 (Zx .u64 (p.getD 2 0) 8) 8) 8) 8) 8) 8),wrap .u8 (Zx .u64 (Zx .u64 (Zx .u64 (Zx .u64 (Zx .u64 (Zx .u64 (Zx .u64 (p.getD 2 0) 8) 8) 8) 8) 8) 8) 8),wrap .u8 (p.getD 3 0),wrap .u8 (Zx .u64 (p.getD 3 0) 8),wrap .u8 (Zx .u64 (Zx .u64 (p.getD 3 0) 8) 8),wrap .u8 (Zx .u64 (Zx .u64 (Zx .u64 (p.getD 3 0) 8) 8) 8),wrap .u8 (Zx .u64 (Zx .u64 (Zx .u64 (Zx .u64 (p.getD 3 0) 8) 8) 8) 8),wrap .u8 (Zx .u64 (Zx .u64 (Zx .u64 (Zx .u64 (Zx .u64 (p.getD 3 0) 8) 8) 8) 8) 8),wrap .u8 (Zx .u64 (Zx .u64 (Zx .u64 (Zx .u64 (Zx .u64 (Zx .u64 (p.getD 3 0) 8) 8) 8) 8) 8) 8),wrap .u8 (Zx .u64 (Zx .u64 (Zx .u64 (Zx .u64 (Zx .u64 (Zx .u64 (Zx .u64 (p.getD 3 0) 8) 8) 8) 8) 8) 8) 8)]:=by kernel_rfl
theorem Zvo (x:Int):0<=wrap .u8 x/\wrap .u8 x<256:=by rw [Z0u]; omega
theorem Zxg {x y:Int} (hx:0<=x) (hy:0<=y):Zh9 x y 0=true:=by
 unfold Zh9
 rw [decide_eq_true hx,decide_eq_true hy]; rfl
theorem Z0d4 (x:Int):0<=wrap .u64 x/\wrap .u64 x<18446744073709551616:=by rw [Zh0]; omega
theorem Ztk (x y c:Int):0<=Zcv x y c/\Zcv x y c<18446744073709551616:=by unfold Zcv; omega
theorem Z04b {x:Int} (h:0<=x/\x<18446744073709551616):0<=Zx .u64 x 60/\Zx .u64 x 60<18446744073709551616:=by
 have:=Z9z .u64 (x:=x) (n:=60) (by decide)
 rw [show ((60:Nat):Int)=60 from rfl] at this
 rw [this]
 have:((2^60:Nat):Int)=1152921504606846976:=by decide
 rw [this]; omega
theorem Z010 {l r:LI} (h:W64 l) (hr:W64 r):W64 (l++r):=by
 intro i
 by_cases hi:i<l.length
 ·have:(l++r).getD i 0=l.getD i 0:=by simp [List.getD_eq_getElem?_getD,List.getElem?_append_left hi]
  rw [this]; exact h i
 ·have:(l++r).getD i 0=r.getD (i-l.length) 0:=by simp [List.getD_eq_getElem?_getD,List.getElem?_append_right (Nat.le_of_not_lt hi)]
  rw [this]; exact hr _
theorem Z011 {z:Int} (h:0<=z/\z<18446744073709551616):W64 [z]:=Zs0 (by simpa using h)
theorem Z05c:W64 [6346243789798364141,1503914060200516822]:=Zs0 (by decide)
theorem tk8 (a b c d e f g h:Int):tk [a,b,c,d,e,f,g,h] 0 8 = [a,b,c,d,e,f,g,h]:=rfl
def pV (l:LI):Nat->Int
 | 0=>0
 | n+1=>pV l n+l.getD n 0*(18446744073709551616:Int)^n
theorem Zae (l:LI) (n:Nat):pV l (n+1)=pV l n+l.getD n 0*(18446744073709551616:Int)^n:=rfl
theorem Zud (l:LI) (i:Nat) (v:Int) : ∀ n,n<=i->pV (Zh7 0 l i v) n=pV l n
 | 0,_=>rfl
 | n+1,h=>by rw [Zae,Zae,Zud l i v n (by omega),Z3w,if_neg (by omega)]
theorem Z02v (l:LI) (i:Nat) (v:Int) : ∀ n,i<n->pV (Zh7 0 l i v) n=pV l n+(v-l.getD i 0)*(18446744073709551616:Int)^i
 | 0,h=>by omega
 | n+1,h=>by
  rw [Zae,Zae,Z3w]
  by_cases hi:n=i
  ·subst hi
   rw [if_pos rfl,Zud l n v n (Nat.le_refl _),Int.sub_mul]
   omega
  ·rw [if_neg hi,Z02v l i v n (by omega)]
   omega
theorem Z02w {l:LI} {m:Nat} (h : ∀ t,m<=t->l.getD t 0=0) : ∀ n,m<=n->pV l n=pV l m
 | 0,hn=>by rw [show m=0 by omega]
 | n+1,hn=>by
  by_cases e:m=n+1
  ·rw [e]
  ·rw [Zae,h n (by omega),Z02w h n (by omega)]; omega
theorem Zuc (n m:Nat):pV (List.replicate m 0) n=0:=by
 induction n with
 | zero=>rfl
 | succ n ih =>
  have:(List.replicate m (0:Int)).getD n 0=0:=by
   simp only [List.getD]
   cases hi:(List.replicate m (0:Int))[n]? with
   | none=>rfl
   | some v=>simpa using (List.mem_replicate.1 (List.mem_of_getElem? hi)).2
  rw [Zae,ih,this]; omega
theorem Z02y (n:Nat):0<(18446744073709551616:Int)^n:=Int.pow_pos (by decide)
theorem Z08t {l:LI} (h:W64 l) : ∀ n,0<=pV l n/\pV l n<(18446744073709551616:Int)^n
 | 0=>by show (0:Int)<=0/\(0:Int)<1; omega
 | n+1=>by
  have ih:=Z08t h n
  have h1:=h n
  have hp:=Z02y n
  rw [Zae,Int.pow_succ]
  generalize (18446744073709551616:Int)^n=w at *
  generalize l.getD n 0=x at *
  generalize pV l n=v at *
  have a:0<=x*w:=Int.mul_nonneg h1.1 (by omega)
  have b:x*w<=18446744073709551615*w:=Int.mul_le_mul_of_nonneg_right (by omega) (by omega)
  omega
theorem Z01j {z q o c:Int} (hz:0<=z/\z<18446744073709551616) (hq:0<=q/\q<18446744073709551616) (ho:0<=o/\o<18446744073709551616) (hc:0<=c/\c<18446744073709551616) :
  ∃ n,wrap .u64 (wrap .u64 (z*q / 18446744073709551616+Zk4 (z*q%18446744073709551616) o 0)+Zk4 (Zcv (z*q%18446744073709551616) o 0) c 0)=n/\0<=n/\n<18446744073709551616/\Zcv (Zcv (z*q%18446744073709551616) o 0) c 0+n*18446744073709551616=z*q+o+c:=by
 have h0:0<=z*q:=Int.mul_nonneg hz.1 hq.1
 have h1:z*q<=18446744073709551615*18446744073709551615:=Int.mul_le_mul (by omega) (by omega) hq.1 (by omega)
 generalize z*q=p at *
 refine ⟨_,rfl,?_⟩
 unfold Zcv Zk4
 have e1:wrap .u64 (p / 18446744073709551616+(p%18446744073709551616+o+0) / 18446744073709551616)=p / 18446744073709551616+(p%18446744073709551616+o+0) / 18446744073709551616:=Ze (by omega) (by omega)
 rw [e1]
 rw [Ze (by omega) (by omega)]
 omega
theorem Zvl {q:LI} (hq:W64 q) {i:Nat} {z:Int} (hz:0<=z/\z<18446744073709551616) {L:Nat} (hL:i+q.length<=L) (hb:L<1000000) (m:Nat) : ∀ (n:Nat) (j:Nat) (l:LI) (c:Int),j+m=q.length->l.length=L->W64 l->(0<=c/\c<18446744073709551616) ->
  ∃ l' c',(∀ k,Z43 q (i:Int) z k (n+1+m) l c (j:Int)=k l' c')/\l'.length=L/\W64 l'/\(0<=c'/\c'<18446744073709551616) /\
   pV l' L+c'*(18446744073709551616:Int)^(i+q.length)+z*pV q j*(18446744073709551616:Int)^i=pV l L+c*(18446744073709551616:Int)^(i+j)+z*pV q q.length*(18446744073709551616:Int)^i/\(∀ t,i+q.length<=t->l'.getD t 0=l.getD t 0):=by
 induction m with
 | zero =>
  intro n j l c hj hl hw hc
  refine ⟨l,c,fun k=>?_,hl,hw,hc,?_,fun _ _=>rfl⟩
  ·rw [Nat.add_zero,Z43,Z7v,Z1e (by simp; omega)]
  ·rw [show j=q.length by omega]
 | succ m ih =>
  intro n j l c hj hl hw hc
  have hqj:=hq j
  have hmul:=Zy8 hz hqj
  have hlj:=hw (i+j)
  have hp:0<=z*q.getD j 0:=Int.mul_nonneg hz.1 hqj.1
  have e1:wrap .i64 ((i:Int)+(j:Int))=((i+j:Nat):Int):=by rw [Zk (by omega) (by omega)]; omega
  have e2:wrap .i64 ((j:Int)+1)=((j+1:Nat):Int):=by rw [Zk (by omega) (by omega)]; rfl
  have hj':j<q.length:=by omega
  have hbr:decide ((j:Int)<(q.length:Int))=true:=by simp; omega
  have hlo:0<=z*q.getD j 0%18446744073709551616:=by omega
  obtain ⟨c1,ec,c1a,c1b,ev⟩:=Z01j hz hqj hlj hc
  obtain ⟨l',c',e,h1,h2,h3,h4,h5⟩:=ih n (j+1) (Zh7 0 l (i+j) (Zcv (Zcv (z*q.getD j 0%18446744073709551616) (l.getD (i+j) 0) 0) c 0)) c1 (by omega) (by rw [Zgs (by omega),List.length_set,hl]) (Zxd hw (Ztk _ _ _)) ⟨c1a,c1b⟩
  refine ⟨l',c',fun k=>?_,h1,h2,h3,?_,?_⟩
  ·rw [<- Nat.add_assoc,Z43,Z7v,Z1s hbr,Z0b (Z19 (by omega) (by omega)),Zr]
   simp only [Int.toNat_natCast]
   rw [Z3 hmul,Zr,e1,Z0b (Z19 (by omega) (by omega)),Zr]
   simp only [Int.toNat_natCast]
   rw [Z0b (Zxg hlo hlj.1),Zr,Zr,Zr,Z0b (Zxg (Ztk _ _ _).1 hc.1),Zr,Zr,Zr,Zr,Z0b (Z19 (by omega) (by omega)),Zr,Zr,e2,ec]
   exact e k
  ·rw [Z02v _ _ _ _ (by omega),Zae,<- Nat.add_assoc,Int.pow_succ,Int.pow_add 18446744073709551616 i j] at h4
   rw [Int.pow_add 18446744073709551616 i j]
   generalize (18446744073709551616:Int)^(i+q.length)=w1 at *
   generalize (18446744073709551616:Int)^i=w2 at *
   generalize (18446744073709551616:Int)^j=w3 at *
   generalize Zcv (Zcv (z*q.getD j 0%18446744073709551616) (l.getD (i+j) 0) 0) c 0=lo at *
   generalize q.getD j 0=qj at *
   generalize l.getD (i+j) 0=o at *
   generalize pV l' L=a1 at *
   generalize pV l L=a2 at *
   generalize pV q j=a3 at *
   generalize pV q q.length=a4 at *
   clear e ec ih
   grind -lia -linarith (splits:=0)
  ·intro t ht
   rw [h5 t ht,Z3w,if_neg (by omega)]
theorem Zvm {p q:LI} (hp:W64 p) (hq:W64 q) {L:Nat} (hL:p.length+q.length=L) (hb:L<1000000) (m:Nat) : ∀ (n:Nat) (i:Nat) (l:LI),i+m=p.length->l.length=L->W64 l->(∀ t,i+q.length<=t->l.getD t 0=0)->pV l L=pV p i*pV q q.length ->
  ∃ l',Z42 p q some (n+1+m) l (i:Int)=some l'/\l'.length=L/\W64 l'/\pV l' L=pV p p.length*pV q q.length:=by
 induction m with
 | zero =>
  intro n i l hi hl hw hz hv
  refine ⟨l,?_,hl,hw,by rw [hv,show i=p.length by omega]⟩
  rw [Nat.add_zero,Z42,Z7u,Z1e (by simp; omega)]
 | succ m ih =>
  intro n i l hi hl hw hz hv
  have hbr:decide ((i:Int)<(p.length:Int))=true:=by simp; omega
  obtain ⟨n',hn⟩ : ∃ n',big=n'+1+q.length:=⟨18446744073709551615-q.length,by have:big=18446744073709551616:=Z21; omega⟩
  obtain ⟨l',c',e,hl',hw',hc',v',z'⟩:=Zvl hq (i:=i) (hp i) (L:=L) (by omega) hb q.length n' 0 l 0 (by omega) hl hw (by decide)
  have e1:wrap .i64 ((i:Int)+(q.length:Int))=((i+q.length:Nat):Int):=by rw [Zk (by omega) (by omega)]; omega
  have e2:wrap .i64 ((i:Int)+1)=((i+1:Nat):Int):=by rw [Zk (by omega) (by omega)]; rfl
  have hz0:l'.getD (i+q.length) 0=0:=by rw [z' _ (Nat.le_refl _),hz _ (Nat.le_refl _)]
  obtain ⟨l2,e3,hl2,hw2,v2⟩:=ih n (i+1) (Zh7 0 l' (i+q.length) c') (by omega) (by rw [Zgs (by omega),List.length_set,hl']) (Zxd hw' hc') (by
   intro t ht
   rw [Z3w,if_neg (by omega),z' t (by omega),hz t (by omega)]) (by
   rw [Z02v _ _ _ _ (by omega),hz0,Zae]
   rw [hv] at v'
   have e0:pV q 0=0:=rfl
   rw [e0] at v'
   generalize (18446744073709551616:Int)^(i+q.length)=w1 at *
   generalize (18446744073709551616:Int)^i=w2 at *
   generalize pV l' L=a1 at *
   generalize pV q q.length=a4 at *
   generalize pV p i=a5 at *
   generalize p.getD i 0=a6 at *
   clear e ih
   grind -lia -linarith (splits:=0))
  refine ⟨l2,?_,hl2,hw2,v2⟩
  rw [<- Nat.add_assoc,Z42,Z7u,Z1s hbr,Z0b (Z19 (by omega) (by omega)),Zr,Z1v]
  simp only [Int.toNat_natCast]
  rw [hn]
  refine (e _).trans ?_
  simp only [Zr,e1,e2]
  rw [Z0b (Z19 (by omega) (by omega))]
  exact e3
theorem Zvn {p q:LI} (hp:W64 p) (hq:W64 q) (hb:p.length+q.length<1000000) : ∃ r,Z9h p q=some r/\r.length=p.length+q.length/\W64 r/\pV r r.length=pV p p.length*pV q q.length:=by
 have e1:wrap .i64 ((p.length:Int)+(q.length:Int))=((p.length+q.length:Nat):Int):=by rw [Zk (by omega) (by omega)]; omega
 obtain ⟨n,hn⟩ : ∃ n',big=n'+1+p.length:=⟨18446744073709551615-p.length,by have:big=18446744073709551616:=Z21; omega⟩
 obtain ⟨r,e,h1,h2,h3⟩:=Zvm hp hq (L:=p.length+q.length) rfl hb p.length n 0 (List.replicate (p.length+q.length) 0) (by omega) (by simp) (Zc5 _) (by
  intro t _
  simp only [List.getD]
  cases hi:(List.replicate (p.length+q.length) (0:Int))[t]? with
  | none=>rfl
  | some v=>simpa using (List.mem_replicate.1 (List.mem_of_getElem? hi)).2) (by
  rw [Zuc]
  show 0=0*_
  omega)
 refine ⟨r,?_,h1,h2,by rw [h1]; exact h3⟩
 rw [Z9h,Zr,e1,Z0b (by unfold mkB; simp; omega),Z1v,Int.toNat_natCast,hn]
 exact e
theorem Zyx (x:Int):Zx .u64 x 60=x / 1152921504606846976:=by
 have:=Z9z .u64 (x:=x) (n:=60) (by decide)
 simpa using this
theorem Z0cw (x:Int):Zn .u64 x 4=(x*16)%18446744073709551616:=by
 have:=Zis .u64 (x:=x) (n:=4) (by decide); rw [Zh0] at this; simpa using this
theorem Z025 {x y:Int} (hx:0<=x/\x<18446744073709551616) (hy:0<=y/\y<18446744073709551616):Z4 .or .u64 (Zx .u64 x 60) (Zn .u64 y 4)=x / 1152921504606846976+y%1152921504606846976*16:=by
 rw [Zyx,Z0cw]
 have e:y*16%18446744073709551616=y%1152921504606846976*16:=by omega
 rw [e]
 exact Z14 4 (x:=y%1152921504606846976*16) (a:=y%1152921504606846976) rfl (by omega) (by omega) (by
  show _<(16:Int)
  omega) (by omega)
theorem Z0lo (l:LI) (v:Int):pV (l ++ [v]) l.length=pV l l.length:=by
 have h : ∀ n,n<=l.length->pV (l ++ [v]) n=pV l n:=by
  intro n
  induction n with
  | zero=>intro _; rfl
  | succ n ih =>
   intro hn
   have:(l ++ [v]).getD n 0=l.getD n 0:=by simp [List.getD_eq_getElem?_getD,List.getElem?_append_left (show n<l.length by omega)]
   rw [Zae,Zae,ih (by omega),this]
 exact h _ (Nat.le_refl _)
theorem Z0bw (l:LI) (v:Int):pV (l ++ [v]) (l ++ [v]).length=pV l l.length+v*(18446744073709551616:Int)^l.length:=by
 have e:(l ++ [v]).length=l.length+1:=by simp
 rw [e,Zae,Z0lo]
 have:(l ++ [v]).getD l.length 0=v:=by simp [List.getD_eq_getElem?_getD]
 rw [this]
theorem Z04c (x d r y w2 w3 b1 b2 b3:Int) {b4:Int} (hx:1152921504606846976*d+r=x)
  (h:b1+w3*1152921504606846976*(b2+(d+y*16)*w2)=b4+x*(w3*w2)+y*(w3*w2*18446744073709551616)+w3*1152921504606846976*b3) :
  b1+w3*1152921504606846976*b2=b4+r*(w3*w2)+w3*1152921504606846976*b3:=by grind -lia -linarith (splits:=0)
theorem Zx5 {p:LI} (hp:W64 p) (hb:p.length<1000000) {k:LI->Option (LI×LI)} (m:Nat) : ∀ (n i:Nat) (l:LI),3+i+m=p.length->l.length=i->W64 l ->
  ∃ l',Z2f p k (n+1+m) l ((3+i:Nat):Int)=k l'/\l'.length=i+m/\W64 l' /\
   pV p p.length+7237005577332262213973186563042994240829374041602535252466099000494570602496*pV l l.length=pV p (3+i)+p.getD (3+i) 0%1152921504606846976*(18446744073709551616:Int)^(3+i)+7237005577332262213973186563042994240829374041602535252466099000494570602496*pV l' l'.length:=by
 induction m with
 | zero =>
  intro n i l hi hl hw
  refine ⟨l,?_,by omega,hw,?_⟩
  ·rw [Nat.add_zero,Z2f,Z51,Z1e (by simp; omega)]
  ·have e:p.getD (3+i) 0=0:=by simp [List.getD_eq_getElem?_getD,List.getElem?_eq_none (show p.length<=3+i by omega)]
   rw [e,show 3+i=p.length by omega]
   omega
 | succ m ih =>
  intro n i l hi hl hw
  have hbr:decide (((3+i:Nat):Int)<(p.length:Int))=true:=by simp; omega
  have e2:wrap .i64 (((3+i:Nat):Int)+1)=((3+(i+1):Nat):Int):=by rw [Zk (by omega) (by omega)]; omega
  have hs:=Z04b (hp (3+i))
  have e3:((3+(i+1):Nat):Int).toNat=3+i+1:=by omega
  have hw3:(18446744073709551616:Int)^3*1152921504606846976=7237005577332262213973186563042994240829374041602535252466099000494570602496:=by decide
  have fin : ∀ (w:Int) (l':LI),w=p.getD (3+i) 0 / 1152921504606846976+p.getD (3+i+1) 0%1152921504606846976*16 ->
    pV p p.length+7237005577332262213973186563042994240829374041602535252466099000494570602496*pV (l ++ [w]) (l ++ [w]).length=pV p (3+(i+1))+p.getD (3+(i+1)) 0%1152921504606846976*(18446744073709551616:Int)^(3+(i+1))+7237005577332262213973186563042994240829374041602535252466099000494570602496*pV l' l'.length ->
    pV p p.length+7237005577332262213973186563042994240829374041602535252466099000494570602496*pV l l.length=pV p (3+i)+p.getD (3+i) 0%1152921504606846976*(18446744073709551616:Int)^(3+i)+7237005577332262213973186563042994240829374041602535252466099000494570602496*pV l' l'.length:=by
   intro w l' hw' h
   rw [Z0bw,hl,<- Nat.add_assoc,Zae,Int.pow_succ,Int.pow_add 18446744073709551616 3 i,hw',<- hw3] at h
   rw [hl,Int.pow_add 18446744073709551616 3 i,<- hw3]
   exact Z04c _ _ _ _ _ _ _ _ _ (Int.mul_ediv_add_emod (p.getD (3+i) 0) 1152921504606846976) h
  by_cases h:3+i+1<p.length
  ·obtain ⟨l',e,h1,h2,h3⟩:=ih n (i+1) (l ++ [Z4 .or .u64 (Zx .u64 (p.getD (3+i) 0) 60) (Zn .u64 (p.getD (3+i+1) 0) 4)]) (by omega) (by simp; omega) (Z010 hw (Z011 (Z02t _ _)))
   refine ⟨l',?_,by omega,h2,fin _ _ (Z025 (hp _) (hp _)) h3⟩
   rw [<- Nat.add_assoc,Z2f,Z51,Z1s hbr,Z0b (Z19 (by omega) (by omega))]
   simp only [Zr,e2,Z1v,Int.toNat_natCast,e3]
   rw [Z1s (by simp; omega),Z0b (Z19 (by omega) (by omega))]
   rw [Z0b (by simp; omega)]
   exact e
  ·obtain ⟨l',e,h1,h2,h3⟩:=ih n (i+1) (l ++ [Zx .u64 (p.getD (3+i) 0) 60]) (by omega) (by simp; omega) (Z010 hw (Z011 hs))
   have e0:p.getD (3+i+1) 0=0:=by simp [List.getD_eq_getElem?_getD,List.getElem?_eq_none (show p.length<=3+i+1 by omega)]
   refine ⟨l',?_,by omega,h2,fin _ _ (by rw [e0,Zyx]; omega) h3⟩
   rw [<- Nat.add_assoc,Z2f,Z51,Z1s hbr,Z0b (Z19 (by omega) (by omega))]
   simp only [Zr,e2,Z1v,Int.toNat_natCast]
   rw [Z1e (by simp; omega)]
   rw [Z0b (by simp; omega)]
   exact e
end Go.Proofs.YtkjfpenagcdmcaaGreatDoor
namespace Go.Proofs.YtkjfpenagcdmcaaGreatDoor
set_option linter.all false
set_option maxRecDepth 100000
def Prm (n:Nat):Prop:=2<=n /\ ∀ d,d∣n->d=1∨d=n
theorem Z08u (n:Nat) : ∀ (m:Nat) (f:Nat->Nat),(∀ i,i<n->f i<m)->(∀ i j,i<n->j<n->f i=f j->i=j)->n<=m:=by
 induction n with
 | zero=>intros; omega
 | succ n ih =>
  intro m f h1 h2
  have hm:=h1 n (by omega)
  have:=ih (m-1) (fun i=>if f i=m-1 then f n else f i) (by
   intro i hi
   have a1:=h1 i (by omega)
   have a2:f i≠f n:=fun e=>by have:=h2 i n (by omega) (by omega) e; omega
   split <;> omega) (by
   intro i j hi hj e
   have a1:f i≠f n:=fun e=>by have:=h2 i n (by omega) (by omega) e; omega
   have a2:f j≠f n:=fun e=>by have:=h2 j n (by omega) (by omega) e; omega
   split at e <;> split at e
   ·rename_i x y; exact h2 i j (by omega) (by omega) (x.trans y.symm)
   ·exact absurd e.symm a2
   ·exact absurd e a1
   ·exact h2 i j (by omega) (by omega) e)
  omega
theorem surj {n:Nat} {f:Nat->Nat} (h1 : ∀ i,i<n->f i<n) (h2 : ∀ i j,i<n->j<n->f i=f j->i=j) {v:Nat} (hv:v<n) : ∃ i,i<n/\f i=v:=by
 false_or_by_contra
 rename_i hc
 have hc : ∀ i,i<n->f i≠v:=fun i hi e=>hc ⟨i,hi,e⟩
 have:=Z08u (n+1) n (fun i=>if i=n then v else f i) (by
  intro i hi
  split
  ·exact hv
  ·exact h1 i (by omega)) (by
  intro i j hi hj e
  split at e <;> split at e
  ·omega
  ·exact absurd e.symm (hc j (by omega))
  ·exact absurd e (hc i (by omega))
  ·exact h2 i j (by omega) (by omega) e)
 omega
theorem Zo3 {a n e:Nat}:(a%n)^e%n=a^e%n:=by rw [<- Nat.pow_mod]
def One (a m k:Nat):Prop:=a^k%m=1%m
theorem One.mul {a m k:Nat} (h:One a m k) (l:Nat):One a m (k*l):=by
 unfold One at *
 rw [Nat.pow_mul,Nat.pow_mod,h,<- Nat.pow_mod,Nat.one_pow]
theorem One.rest {a m k l:Nat} (h:One a m k) (h2:One a m l):One a m (k%l):=by
 have h3:=h2.mul (k / l)
 unfold One at *
 have e:k=l*(k / l)+k%l:=(Nat.div_add_mod k l).symm
 rw [e,Nat.pow_add,Nat.mul_mod,h3,<- Nat.mul_mod,Nat.one_mul] at h
 exact h
theorem One.gcd {a m:Nat} (k:Nat) : ∀ l,One a m k->One a m l->One a m (Nat.gcd k l):=by
 induction k using Nat.strongRecOn with
 | ind k ih =>
  intro l h h2
  by_cases hk:k=0
  ·subst hk; rw [Nat.gcd_zero_left]; exact h2
  ·rw [Nat.gcd_rec]
   exact ih (l%k) (Nat.mod_lt _ (by omega)) k (h2.rest h) h
def Zwn:List Nat->Nat
 | []=>1
 | r::rs=>r*Zwn rs
theorem Zyh {m:Nat} (hm:1<m) : ∀ (rs:List Nat),(∀ r∈rs,Prm r)->m∣Zwn rs->∃ r,r∈rs/\r∣m
 | [],_,h=>by
  have:=Nat.le_of_dvd (by decide) h
  simp [Zwn] at this
  omega
 | r::rs,hp,h=>by
  have hr:=hp r List.mem_cons_self
  rcases hr.2 (Nat.gcd m r) (Nat.gcd_dvd_right m r) with h1 | h1
  ·have h2:m∣Zwn rs:=Nat.Coprime.dvd_of_dvd_mul_left h1 h
   obtain ⟨s,hs,hd⟩:=Zyh hm rs (fun x hx=>hp x (List.mem_cons_of_mem _ hx)) h2
   exact ⟨s,List.mem_cons_of_mem _ hs,hd⟩
  ·exact ⟨r,List.mem_cons_self,by rw [<- h1]; exact Nat.gcd_dvd_left m r⟩
theorem Zye {a m n:Nat} {rs:List Nat} (hp : ∀ r∈rs,Prm r) (hn:Zwn rs=n) (h0:0<n) (h1:One a m n) (hr : ∀ r∈rs,¬ One a m (n / r)) {k:Nat} (hk:0<k) (hkn:k<n) : ¬ One a m k:=by
 intro h
 have hg:=One.gcd k n h h1
 have hd:Nat.gcd k n∣n:=Nat.gcd_dvd_right k n
 have hle:Nat.gcd k n<=k:=Nat.le_of_dvd hk (Nat.gcd_dvd_left k n)
 obtain ⟨q,hq⟩:=hd
 generalize Nat.gcd k n=g at *
 have hq1:1<q:=by
  rcases Nat.lt_or_ge 1 q with h | h
  ·exact h
  ·have:g*q<=g*1:=Nat.mul_le_mul_left g h
   omega
 obtain ⟨r,hrm,s,hs⟩:=Zyh hq1 rs hp (by rw [hn,hq]; exact Nat.dvd_mul_left q g)
 have hr0:0<r:=by have:=(hp r hrm).1; omega
 apply hr r hrm
 have e:n / r=g*s:=by
  rw [hq,hs,<- Nat.mul_assoc,Nat.mul_comm g r,Nat.mul_assoc,Nat.mul_div_cancel_left _ hr0]
 rw [e]
 exact hg.mul s
theorem Zrj {a m n:Nat} (h1:One a m n) (ho : ∀ k,0<k->k<n->¬ One a m k) {i j:Nat} (hi:i<n) (hj:j<n) (e:a^i%m=a^j%m):i=j:=by
 have key : ∀ i j,i<j->j<n->a^i%m=a^j%m->False:=by
  intro i j hij hj e
  apply ho (j-i) (by omega) (by omega)
  have e2:a^(n-i)*a^i%m=a^(n-i)*a^j%m:=by rw [Nat.mul_mod,e,<- Nat.mul_mod]
  rw [<- Nat.pow_add,<- Nat.pow_add,show n-i+i=n by omega,show n-i+j=n+(j-i) by omega] at e2
  unfold One at h1 ⊢
  rw [h1,Nat.pow_add,Nat.mul_mod,h1,<- Nat.mul_mod,Nat.one_mul] at e2
  exact e2.symm
 rcases Nat.lt_trichotomy i j with h | h | h
 ·exact (key i j h hj e).elim
 ·exact h
 ·exact (key j i h hi e.symm).elim
theorem One.dvd {a m l k:Nat} (h:One a m k) (hl:l∣m):One a l k:=by
 unfold One at *
 obtain ⟨q,rfl⟩:=hl
 have:=congrArg (· % l) h
 simpa [Nat.mod_mul_right_mod] using this
theorem pock {n F c:Nat} {rs:List Nat} (h2:2<=n) (hp : ∀ r∈rs,Prm r) (hF:Zwn rs=F) (hF0:0<F) (hFn:n<F*F) (h1:One c n F) (hr : ∀ r∈rs,Nat.gcd (c^(F / r)%n+(n-1)) n=1):Prm n:=by
 have key : ∀ l,l∣n->2<=l->F<=l:=by
  intro l hl h2l
  have h1l:=h1.dvd hl
  have hol : ∀ k,0<k->k<F->¬ One c l k:=fun k hk hkF=>Zye hp hF hF0 h1l (fun r hrm hone=>by
   have hg:=hr r hrm
   have hd:l∣c^(F / r)%n+(n-1):=by
    unfold One at hone
    have e1:c^(F / r)%n%l=1%l:=by
     obtain ⟨q,rfl⟩:=hl
     rw [Nat.mod_mul_right_mod]; exact hone
    obtain ⟨q,rfl⟩:=hl
    apply Nat.dvd_of_mod_eq_zero
    rw [Nat.add_mod,e1,<- Nat.add_mod,show 1+(l*q-1)=l*q by omega,Nat.mul_mod_right]
   have:=Nat.dvd_gcd hd hl
   rw [hg] at this
   have:=Nat.le_of_dvd (by decide) this
   omega) hk hkF
  exact Z08u F l (fun i=>c^i%l) (fun i _=>Nat.mod_lt _ (by omega)) (fun i j hi hj e=>Zrj h1l hol hi hj e)
 refine ⟨h2,fun d hd=>?_⟩
 obtain ⟨q,hq⟩:=hd
 by_cases hd1:d=1
 ·exact .inl hd1
 by_cases hq1:q=1
 ·subst hq1; exact .inr (by omega)
 exfalso
 have hd0:d≠0:=fun h=>by subst h; simp at hq; omega
 have hq0:q≠0:=fun h=>by subst h; simp at hq; omega
 have a1:=key d ⟨q,hq⟩ (by omega)
 have a2:=key q ⟨d,by rw [hq,Nat.mul_comm]⟩ (by omega)
 have:=Nat.mul_le_mul a1 a2
 omega
def pm (m:Nat):Nat->Nat->Nat->Nat->Nat
  | 0,_,_,acc=>acc
  | f+1,a,e,acc=>pm m f (a*a%m) (e / 2) (if e%2=0 then acc else acc*a%m)
theorem Z0bz (m f:Nat) : ∀ (a e acc:Nat),e<2^f->pm m f a e acc%m=acc*a^e%m:=by
  induction f with
  | zero => intro a e acc h; have : e = 0 := by simpa using h
            subst this; simp [pm]
  | succ f ih =>
    intro a e acc h
    have h2:e / 2<2^f:=by rw [Nat.pow_succ] at h; omega
    rw [pm,ih _ _ _ h2]
    have e1:e=2*(e / 2)+e%2:=(Nat.div_add_mod e 2).symm
    have e2:(a*a%m)^(e / 2)%m=a^(2*(e / 2))%m:=by rw [<- Nat.pow_mod,<- Nat.pow_two,<- Nat.pow_mul]
    by_cases hz:e%2=0
    · rw [if_pos hz,Nat.mul_mod,e2,<- Nat.mul_mod,show 2*(e / 2)=e by omega]
    · have e3:a^e=a*a^(2*(e / 2)):=by
        conv=>lhs; rw [e1,show e%2=1 by omega,Nat.pow_succ,Nat.mul_comm]
      rw [if_neg hz,Nat.mul_mod,e2,Nat.mod_mod,<- Nat.mul_mod,e3,Nat.mul_assoc]
theorem Z08s {a m e:Nat} (f:Nat) (h:e<2^f) (h1:(pm m f a e 1%m==1%m)=true):One a m e:=by
  have:=Z0bz m f a e 1 h
  unfold One
  rw [Nat.one_mul] at this
  rw [<- this]
  simpa using h1
def chkP (n F c:Nat) (rs:List Nat):Bool :=
  Nat.ble 2 n&&(Zwn rs==F)&&Nat.ble 1 F&&Nat.blt n (F*F)&&Nat.blt F (2^256)&&(pm n 256 c F 1%n==1%n)&&rs.all fun r=>Nat.blt (F / r) (2^256)&&Nat.gcd (pm n 256 c (F / r) 1%n+(n-1)) n==1
theorem Zug {n F c:Nat} {rs:List Nat} (hp : ∀ r∈rs,Prm r) (h:chkP n F c rs=true):Prm n:=by
  unfold chkP at h
  simp only [Bool.and_eq_true,List.all_eq_true] at h
  obtain ⟨⟨⟨⟨⟨⟨h1,h2⟩,h3⟩,h4⟩,h5⟩,h6⟩,h7⟩:=h
  refine pock (F:=F) (c:=c) (rs:=rs) (Nat.le_of_ble_eq_true h1) hp (by simpa using h2) (Nat.le_of_ble_eq_true h3) (Nat.le_of_ble_eq_true h4) (Z08s 256 (Nat.le_of_ble_eq_true h5) h6) ?_
  intro r hr
  obtain ⟨a1,a2⟩:=h7 r hr
  have:=Z0bz n 256 c (F / r) 1 (Nat.le_of_ble_eq_true a1)
  rw [Nat.one_mul] at this
  rw [<- this]
  simpa using a2
def tryD (n:Nat):Nat->Nat->Bool
  | 0,_=>true
  | f+1,d => !(n%d==0)&&tryD n f (d+1)
theorem Z0d2 (n f:Nat) : ∀ d,tryD n f d=true->∀ i,i<f->n%(d+i)≠0:=by
  induction f with
  | zero=>intros; omega
  | succ f ih =>
    intro d h i hi
    simp only [tryD,Bool.and_eq_true] at h
    cases i with
    | zero=>simpa using h.1
    | succ i=>have:=ih (d+1) h.2 i (by omega); rwa [show d+(i+1)=d+1+i by omega]
theorem Zb9 (n f:Nat) (h:(Nat.ble 2 n&&tryD n f 2&&Nat.blt n ((f+2)*(f+2)))=true):Prm n:=by
  simp only [Bool.and_eq_true] at h
  obtain ⟨⟨h1,h2⟩,h3⟩:=h
  have h1:=Nat.le_of_ble_eq_true h1
  have h3:n<(f+2)*(f+2):=Nat.le_of_ble_eq_true h3
  have key : ∀ d,2<=d->d<f+2->¬ d∣n:=fun d a b hd=>by
    have:=Z0d2 n f 2 h2 (d-2) (by omega)
    rw [show 2+(d-2)=d by omega] at this
    exact this (Nat.mod_eq_zero_of_dvd hd)
  refine ⟨h1,fun d hd=>?_⟩
  obtain ⟨q,hq⟩:=hd
  by_cases hd1:d=1
  · exact .inl hd1
  by_cases hq1:q=1
  · subst hq1; exact .inr (by omega)
  exfalso
  have hd0:d≠0:=fun h=>by subst h; simp at hq; omega
  have hq0:q≠0:=fun h=>by subst h; simp at hq; omega
  have a1:f+2<=d:=by
    rcases Nat.lt_or_ge d (f+2) with h | h
    · exact absurd ⟨q,hq⟩ (key d (by omega) h)
    · exact h
  have a2:f+2<=q:=by
    rcases Nat.lt_or_ge q (f+2) with h | h
    · exact absurd ⟨d,by rw [hq,Nat.mul_comm]⟩ (key q (by omega) h)
    · exact h
  have:=Nat.mul_le_mul a1 a2
  omega
theorem Z09m {P:Nat->Prop} {a:Nat} (h:P a) : ∀ r ∈ [a],P r:=by intro r hr; rw [List.mem_singleton] at hr; subst hr; exact h
theorem Zs9 {P:Nat->Prop} {a b:Nat} (h:P a) (h2:P b) : ∀ r ∈ [a,b],P r:=by
  intro r hr
  simp only [List.mem_cons,List.not_mem_nil,or_false] at hr
  rcases hr with rfl | rfl
  · exact h
  · exact h2
theorem Zqo:Prm 2773320623:=Zb9 2773320623 52662 (by decide +kernel)
theorem Zp9:Prm 72106336199:=Zug (F:=2773320623) (c:=67108864) (rs:=[2773320623]) (Z09m Zqo) (by decide +kernel)
theorem Zwm:Prm 8574133:=Zb9 8574133 2928 (by decide +kernel)
theorem Z0c0:Prm 127:=Zb9 127 11 (by decide +kernel)
theorem Zjm:Prm 1919519569386763:=Zug (F:=1088914891) (c:=354538099852037) (rs:=[8574133,127]) (Zs9 Zwm Z0c0) (by decide +kernel)
theorem Zzz:Prm 430751:=Zb9 430751 656 (by decide +kernel)
theorem Z06s:Prm 4153:=Zb9 4153 64 (by decide +kernel)
theorem Zhx:Prm 31757755568855353:=Zug (F:=1788908903) (c:=26222887164197666) (rs:=[430751,4153]) (Zs9 Zzz Z06s) (by decide +kernel)
theorem Z7f:Prm 75445702479781427272750846543864801:=Zug (F:=138409523410761641138333837) (c:=23520671056837248616447561120497838) (rs:=[1919519569386763,72106336199]) (Zs9 Zjm Zp9) (by decide +kernel)
theorem Z23:Prm 74058212732561358302231226437062788676166966415465897661863160754340907:=Zug (F:=2395986178073482737347378734667165195040796357129753) (c:=32917242187670345156894797748588826076355976820526874250530785709567478) (rs:=[75445702479781427272750846543864801,31757755568855353]) (Zs9 Z7f Zhx) (by decide +kernel)
abbrev pN:Nat:=57896044618658097711785492504343953926634992332820282019728792003956564819949
abbrev qN:Nat:=74058212732561358302231226437062788676166966415465897661863160754340907
theorem Z0lu:Prm 2:=Zb9 2 0 (by decide +kernel)
theorem Z0ze:Prm 3:=Zb9 3 1 (by decide +kernel)
theorem Z031:Prm 65147:=Zb9 65147 255 (by decide +kernel)
theorem Z02n {a m e:Nat} (f:Nat) (h:e<2^f) (h1:(pm m f a e 1%m==1%m)=false) : ¬ One a m e:=by
 have:=Z0bz m f a e 1 h
 intro h2
 unfold One at h2
 rw [Nat.one_mul,h2] at this
 rw [this] at h1
 simp at h1
theorem Zlh:One 2 pN (pN-1):=Z08s 256 (by decide +kernel) (by decide +kernel)
theorem Z00a {k:Nat} (hk:0<k) (hk2:k<pN-1) : ¬ One 2 pN k:=by
 refine Zye (rs:=[2,2,3,65147,qN]) ?_ (by decide +kernel) (by decide +kernel) Zlh ?_ hk hk2
 ·intro r hr
  simp only [List.mem_cons,List.not_mem_nil,or_false] at hr
  rcases hr with rfl | rfl | rfl | rfl | rfl
  ·exact Z0lu
  ·exact Z0lu
  ·exact Z0ze
  ·exact Z031
  ·exact Z23
 ·intro r hr
  simp only [List.mem_cons,List.not_mem_nil,or_false] at hr
  rcases hr with rfl | rfl | rfl | rfl | rfl
  all_goals exact Z02n 256 (by decide +kernel) (by decide +kernel)
theorem Zt3 {i:Nat} (hi:i<pN-1):2^i%pN≠0:=by
 intro h
 have h1:=Zlh
 unfold One at h1
 rw [show pN-1=i+(pN-1-i) by omega,Nat.pow_add,Nat.mul_mod,h,Nat.zero_mul,Nat.zero_mod] at h1
 exact absurd h1 (by decide +kernel)
theorem Z07c {a:Nat} (ha:a%pN≠0) : ∃ i,i<pN-1/\2^i%pN=a%pN:=by
 have hlt : ∀ x,x%pN<pN:=fun x=>Nat.mod_lt _ (by decide +kernel)
 obtain ⟨i,hi,e⟩:=surj (n:=pN-1) (f:=fun i=>2^i%pN-1) (fun i hi=>by
  have:=hlt (2^i)
  have:=Zt3 hi
  omega) (fun i j hi hj e=>by
  have:=Zt3 hi
  have:=Zt3 hj
  exact Zrj Zlh (fun k a b=>Z00a a b) hi hj (by omega)) (v:=a%pN-1) (by have:=hlt a; omega)
 refine ⟨i,hi,?_⟩
 have:=Zt3 hi
 omega
theorem Z01v {a:Nat} (ha:a%pN≠0):One a pN (pN-1):=by
 obtain ⟨i,_,e⟩:=Z07c ha
 have h:=Zlh.mul i
 unfold One at h ⊢
 rw [<- Zo3,<- e,Zo3,<- Nat.pow_mul,Nat.mul_comm]
 exact h
theorem Z0b1 {a:Nat} (ha:a%pN≠0):a*a^(pN-2)%pN=1:=by
 have h:=Z01v ha
 unfold One at h
 rw [show pN-1=(pN-2)+1 by decide +kernel,Nat.pow_succ,Nat.mul_comm] at h
 rw [h]
 decide +kernel
theorem Z0bg {d:Nat} (hd:(pm pN 256 d ((pN-1) / 2) 1%pN==1%pN)=false) (x:Nat) (hx:x%pN≠0):x*x%pN≠d%pN:=by
 intro e
 refine Z02n 256 (by decide +kernel) hd ?_
 have h:=Z01v hx
 unfold One at h ⊢
 rw [<- Zo3,<- e,Zo3,<- Nat.pow_two,<- Nat.pow_mul,show 2*((pN-1) / 2)=pN-1 by decide +kernel]
 exact h
abbrev dN:Nat:=37095705934669439343138083508754565189542113879843219016388785533085940283555
theorem Z01n (x:Nat) (hx:x%pN≠0):x*x%pN≠dN%pN:=Z0bg (by decide +kernel) x hx
abbrev F:=Fin pN
theorem Z00w (a:F) (ha:a≠0) : ∃ i:F,a*i=1:=by
 have h0:a.val%pN≠0:=by
  intro h
  apply ha
  rw [Nat.mod_eq_of_lt a.isLt] at h
  exact Fin.ext h
 have h:=Z0b1 h0
 refine ⟨⟨a.val^(pN-2)%pN,Nat.mod_lt _ (by decide +kernel)⟩,Fin.ext ?_⟩
 rw [Fin.val_mul]
 show a.val*(a.val^(pN-2)%pN)%pN=_
 generalize a.val^(pN-2)=z at *
 rw [Nat.mul_mod,Nat.mod_mod,<- Nat.mul_mod,h]
 decide +kernel
theorem Zs6 {a b:F} (h:a*b=0):a=0∨b=0:=by
 by_cases ha:a=0
 ·exact .inl ha
 ·obtain ⟨i,hi⟩:=Z00w a ha
  exact .inr (by grind -lia -linarith (splits:=0))
def dF:F:=⟨dN,by decide +kernel⟩
def iF:F:=⟨19681161376707505956807079304988542015446066515923890162744021073123829784752,by decide +kernel⟩
theorem Z0qw:iF*iF+1=0:=by decide +kernel
theorem Z01m (s t:F) (h:s*s=dF*(t*t)):t=0:=by
 false_or_by_contra
 rename_i ht
 obtain ⟨i,hi⟩:=Z00w t ht
 have hx:(s*i)*(s*i)=dF:=by grind -lia -linarith (splits:=0)
 have h1:(s*i).val*(s*i).val%pN=dN%pN:=by
  have:=congrArg Fin.val hx
  rw [Fin.val_mul] at this
  rw [this]
  decide +kernel
 by_cases hz:(s*i).val%pN=0
 ·rw [Nat.mul_mod,hz] at h1
  exact absurd h1 (by decide +kernel)
 ·exact Z01n _ hz h1
structure On (x y:F):Prop where
 eq:y*y-x*x=1+dF*x*x*y*y
theorem Z0p5 (a:F) (h:a+a=0):a=0:=by
 obtain ⟨i,hi⟩:=Z00w 2 (by decide +kernel)
 grind -lia -linarith (splits:=0)
theorem Z08l {x1 y1 x2 y2:F} (h1:On x1 y1) (h2:On x2 y2):dF*x1*x2*y1*y2*(dF*x1*x2*y1*y2)≠1:=by
 intro h3
 have e1:=h1.eq
 have e2:=h2.eq
 have hi:=Z0qw
 obtain ⟨j,hj⟩ : ∃ j,j=iF:=⟨_,rfl⟩
 rw [<- hj] at hi
 obtain ⟨d,hd⟩ : ∃ d,d=dF:=⟨_,rfl⟩
 have nr : ∀ s t:F,s*s=d*(t*t)->t=0:=by rw [hd]; exact Z01m
 rw [<- hd] at e1 e2 h3
 clear hd hj h1 h2
 obtain ⟨e,he⟩ : ∃ e,e=d*x1*x2*y1*y2:=⟨_,rfl⟩
 rw [<- he] at h3
 -- with u = j x the curve is u u + y y = 1 - d u u y y
 have a1:x1*y1*(j*x2+y2)=0:=by
  refine nr (j*x1+e*y1) _ ?_
  grind -lia -linarith (splits:=0)
 have a2:x1*y1*(j*x2-y2)=0:=by
  refine nr (j*x1-e*y1) _ ?_
  grind -lia -linarith (splits:=0)
 have n1:x1*y1≠0:=fun h=>absurd (show (1:F)=0 by grind -lia -linarith (splits:=0)) (by decide +kernel)
 have b1:=(Zs6 a1).resolve_left n1
 have b2:=(Zs6 a2).resolve_left n1
 have b3:y2=0:=Z0p5 y2 (by grind -lia -linarith (splits:=0))
 exact absurd (show (1:F)=0 by grind -lia -linarith (splits:=0)) (by decide +kernel)
noncomputable def Zy3 (a:F):F:=if h:a=0 then 0 else Classical.choose (Z00w a h)
theorem Z72 {a:F} (ha:a≠0):a*Zy3 a=1:=by
 unfold Zy3
 rw [dif_neg ha]
 exact Classical.choose_spec (Z00w a ha)
theorem den1 {x1 y1 x2 y2:F} (h1:On x1 y1) (h2:On x2 y2):1+dF*x1*x2*y1*y2≠0:=by
 intro h
 refine Z08l h1 h2 ?_
 generalize dF*x1*x2*y1*y2=e at *
 grind -lia -linarith (splits:=0)
theorem den2 {x1 y1 x2 y2:F} (h1:On x1 y1) (h2:On x2 y2):1-dF*x1*x2*y1*y2≠0:=by
 intro h
 refine Z08l h1 h2 ?_
 generalize dF*x1*x2*y1*y2=e at *
 grind -lia -linarith (splits:=0)
structure G where
 x:F
 y:F
 on:On x y
theorem Z09g {P Q:G} (hx:P.x=Q.x) (hy:P.y=Q.y):P=Q:=by
 cases P; cases Q
 simp only at hx hy
 subst hx; subst hy; rfl
theorem Z0bt (a b u v d:F) (h1:b*b-a*a=1+d*a*a*b*b) (h2:v*v-u*u=1+d*u*u*v*v) :
  (b*v+a*u)*(b*v+a*u)*(1+d*a*u*b*v)*(1+d*a*u*b*v)-(a*v+b*u)*(a*v+b*u)*(1-d*a*u*b*v)*(1-d*a*u*b*v)-(1+d*a*u*b*v)*(1+d*a*u*b*v)*(1-d*a*u*b*v)*(1-d*a*u*b*v)-d*(a*v+b*u)*(a*v+b*u)*(b*v+a*u)*(b*v+a*u)=0:=by
 grind -lia -linarith (splits:=0)
theorem Z0bs (A B C D i1 i2 d:F) (hB:B*i1=1) (hD:D*i2=1) (h:C*C*B*B-A*A*D*D-B*B*D*D-d*A*A*C*C=0) :
  C*i2*(C*i2)-A*i1*(A*i1)=1+d*(A*i1)*(A*i1)*(C*i2)*(C*i2):=by
 grind -lia -linarith (splits:=0)
noncomputable def Zg9 (P Q:G):G :=
 ⟨(P.x*Q.y+P.y*Q.x)*Zy3 (1+dF*P.x*Q.x*P.y*Q.y),(P.y*Q.y+P.x*Q.x)*Zy3 (1-dF*P.x*Q.x*P.y*Q.y),
  ⟨Z0bs _ _ _ _ _ _ _ (Z72 (den1 P.on Q.on)) (Z72 (den2 P.on Q.on)) (Z0bt P.x P.y Q.x Q.y dF P.on.eq Q.on.eq)⟩⟩
def Ziz:G:=⟨0,1,⟨by decide +kernel⟩⟩
theorem Z012 (P Q:G):Zg9 P Q=Zg9 Q P:=by
 have e1:dF*P.x*Q.x*P.y*Q.y=dF*Q.x*P.x*Q.y*P.y:=by generalize dF=d; grind -lia -linarith (splits:=0)
 refine Z09g ?_ ?_
 ·show (P.x*Q.y+P.y*Q.x)*_=(Q.x*P.y+Q.y*P.x)*_
  rw [e1]; generalize Zy3 _=i; grind -lia -linarith (splits:=0)
 ·show (P.y*Q.y+P.x*Q.x)*_=(Q.y*P.y+Q.x*P.x)*_
  rw [e1]; generalize Zy3 _=i; grind -lia -linarith (splits:=0)
theorem Z05e (a b u v x y d:F) (h1:b*b-a*a=1+d*a*a*b*b) (h2:v*v-u*u=1+d*u*u*v*v) (h3:y*y-x*x=1+d*x*x*y*y):((a*v+b*u)*(1-d*a*u*b*v)*y+(b*v+a*u)*(1+d*a*u*b*v)*x)*((1+d*u*x*v*y)*(1-d*u*x*v*y)+d*(u*y+v*x)*(v*y+u*x)*a*b)-((u*y+v*x)*(1-d*u*x*v*y)*b+(v*y+u*x)*(1+d*u*x*v*y)*a)*((1+d*a*u*b*v)*(1-d*a*u*b*v)+d*(a*v+b*u)*(b*v+a*u)*x*y)=0:=by
 grind -lia -linarith (splits:=0)
theorem Z05f (a b u v x y d:F) (h1:b*b-a*a=1+d*a*a*b*b) (h2:v*v-u*u=1+d*u*u*v*v) (h3:y*y-x*x=1+d*x*x*y*y):((b*v+a*u)*(1+d*a*u*b*v)*y+(a*v+b*u)*(1-d*a*u*b*v)*x)*((1+d*u*x*v*y)*(1-d*u*x*v*y)-d*(u*y+v*x)*(v*y+u*x)*a*b)-((v*y+u*x)*(1+d*u*x*v*y)*b+(u*y+v*x)*(1-d*u*x*v*y)*a)*((1+d*a*u*b*v)*(1-d*a*u*b*v)-d*(a*v+b*u)*(b*v+a*u)*x*y)=0:=by
 grind -lia -linarith (splits:=0)
theorem Z0eg (A B C D A2 B2 C2 D2 i1 i2 i3 i4 x1 y1 x3 y3 d j k:F) (hB:B*i1=1) (hD:D*i2=1) (hB2:B2*i3=1) (hD2:D2*i4=1)
  (h:(A*D*y3+C*B*x3)*(B2*D2+d*A2*C2*x1*y1)-(A2*D2*y1+C2*B2*x1)*(B*D+d*A*C*x3*y3)=0) :
  (A*i1*y3+C*i2*x3)*(1+d*(A2*i3)*(C2*i4)*x1*y1)=(A2*i3*y1+C2*i4*x1)*(1+d*(A*i1)*(C*i2)*x3*y3):=by
 grind -lia -linarith (splits:=0)
theorem Z0eh (A B C D A2 B2 C2 D2 i1 i2 i3 i4 x1 y1 x3 y3 d j k:F) (hB:B*i1=1) (hD:D*i2=1) (hB2:B2*i3=1) (hD2:D2*i4=1)
  (h:(C*B*y3+A*D*x3)*(B2*D2-d*A2*C2*x1*y1)-(C2*B2*y1+A2*D2*x1)*(B*D-d*A*C*x3*y3)=0) :
  (C*i2*y3+A*i1*x3)*(1-d*(A2*i3)*(C2*i4)*x1*y1)=(C2*i4*y1+A2*i3*x1)*(1-d*(A*i1)*(C*i2)*x3*y3):=by
 grind -lia -linarith (splits:=0)
theorem Z0qu (X Y U V x1 y1 x3 y3 d j k:F) (h:(X*y3+Y*x3)*(1+d*U*V*x1*y1)=(U*y1+V*x1)*(1+d*X*Y*x3*y3)) (hj:(1+d*X*x3*Y*y3)*j=1) (hk:(1+d*x1*U*y1*V)*k=1) :
  (X*y3+Y*x3)*j=(x1*V+y1*U)*k:=by grind -lia -linarith (splits:=0)
theorem Z0qv (X Y U V x1 y1 x3 y3 d j k:F) (h:(Y*y3+X*x3)*(1-d*U*V*x1*y1)=(V*y1+U*x1)*(1-d*X*Y*x3*y3)) (hj:(1-d*X*x3*Y*y3)*j=1) (hk:(1-d*x1*U*y1*V)*k=1) :
  (Y*y3+X*x3)*j=(y1*V+x1*U)*k:=by grind -lia -linarith (splits:=0)
theorem Zzb (P Q R:G):Zg9 (Zg9 P Q) R=Zg9 P (Zg9 Q R):=by
 have b1:=Z72 (den1 P.on Q.on)
 have b2:=Z72 (den2 P.on Q.on)
 have b3:=Z72 (den1 Q.on R.on)
 have b4:=Z72 (den2 Q.on R.on)
 refine Z09g ?_ ?_
 ·refine Z0qu _ _ _ _ P.x P.y R.x R.y dF _ _ ?_ (Z72 (den1 (Zg9 P Q).on R.on)) (Z72 (den1 P.on (Zg9 Q R).on))
  exact Z0eg _ _ _ _ _ _ _ _ _ _ _ _ P.x P.y R.x R.y dF 0 0 b1 b2 b3 b4 (Z05e P.x P.y Q.x Q.y R.x R.y dF P.on.eq Q.on.eq R.on.eq)
 ·refine Z0qv _ _ _ _ P.x P.y R.x R.y dF _ _ ?_ (Z72 (den2 (Zg9 P Q).on R.on)) (Z72 (den2 P.on (Zg9 Q R).on))
  exact Z0eh _ _ _ _ _ _ _ _ _ _ _ _ P.x P.y R.x R.y dF 0 0 b1 b2 b3 b4 (Z05f P.x P.y Q.x Q.y R.x R.y dF P.on.eq Q.on.eq R.on.eq)
theorem Ztj (P:G):Zg9 P Ziz=P:=by
 have b1:=Z72 (den1 P.on Ziz.on)
 have b2:=Z72 (den2 P.on Ziz.on)
 have z1:Ziz.x=0:=rfl
 have z2:Ziz.y=1:=rfl
 refine Z09g ?_ ?_
 ·show (P.x*Ziz.y+P.y*Ziz.x)*Zy3 _=P.x
  generalize Zy3 (1+dF*P.x*Ziz.x*P.y*Ziz.y)=i at *
  rw [z1,z2] at *
  generalize dF=d at *
  grind -lia -linarith (splits:=0)
 ·show (P.y*Ziz.y+P.x*Ziz.x)*Zy3 _=P.y
  generalize Zy3 (1-dF*P.x*Ziz.x*P.y*Ziz.y)=i at *
  rw [z1,z2] at *
  generalize dF=d at *
  grind -lia -linarith (splits:=0)
theorem Z04y (P:G):Zg9 Ziz P=P:=by rw [Z012,Ztj]
noncomputable def Zp6:Nat->G->G
 | 0,_=>Ziz
 | n+1,P=>Zg9 (Zp6 n P) P
theorem Zo1 (m n:Nat) (P:G):Zp6 (m+n) P=Zg9 (Zp6 m P) (Zp6 n P):=by
 induction n with
 | zero=>exact (Ztj _).symm
 | succ n ih =>
  show Zg9 (Zp6 (m+n) P) P=Zg9 (Zp6 m P) (Zg9 (Zp6 n P) P)
  rw [ih,Zzb]
theorem Zca (m n:Nat) (P:G):Zp6 (m*n) P=Zp6 m (Zp6 n P):=by
 induction m with
 | zero=>rw [Nat.zero_mul]; rfl
 | succ m ih=>rw [Nat.succ_mul,Zo1,ih]; rfl
def fi (n:Int):F:=⟨(n%57896044618658097711785492504343953926634992332820282019728792003956564819949).toNat,by
 show _<57896044618658097711785492504343953926634992332820282019728792003956564819949
 omega⟩
theorem Zhl (n:Int):((fi n).val:Int)=n%57896044618658097711785492504343953926634992332820282019728792003956564819949:=by
 show (((n%_).toNat:Nat):Int)=_
 omega
theorem Z0bu:(pN:Int)=57896044618658097711785492504343953926634992332820282019728792003956564819949:=by decide +kernel
theorem Z0qt {a b:Int}:fi a=fi b↔a%57896044618658097711785492504343953926634992332820282019728792003956564819949=b%57896044618658097711785492504343953926634992332820282019728792003956564819949:=by
 constructor
 ·intro h
  rw [<- Zhl,<- Zhl,h]
 ·intro h
  apply Fin.ext
  have:((fi a).val:Int)=((fi b).val:Int):=by rw [Zhl,Zhl,h]
  omega
theorem Zd6 (a b:Int):fi (a+b)=fi a+fi b:=by
 apply Fin.ext
 rw [Fin.val_add]
 apply Int.ofNat_inj.1
 rw [Zhl,Int.natCast_emod,Int.natCast_add,Zhl,Zhl,Z0bu]
 exact Int.add_emod _ _ _
theorem Z2l (a b:Int):fi (a*b)=fi a*fi b:=by
 apply Fin.ext
 rw [Fin.val_mul]
 apply Int.ofNat_inj.1
 rw [Zhl,Int.natCast_emod,Int.natCast_mul,Zhl,Zhl,Z0bu]
 exact Int.mul_emod _ _ _
theorem fi_1:fi 1=1:=by decide +kernel
theorem Zhk (a b:Int):fi (a-b)=fi a-fi b:=by
 have h:=Zd6 (a-b) b
 rw [Int.sub_add_cancel] at h
 grind -lia -linarith (splits:=0)
theorem Zh3 (a:Int):fi (a%57896044618658097711785492504343953926634992332820282019728792003956564819949)=fi a:=by
 rw [Z0qt]; exact Int.emod_emod_of_dvd _ (Int.dvd_refl _)
def fv (x:F):Int:=(x.val:Int)
theorem Zxx (x:F):0<=fv x/\fv x<57896044618658097711785492504343953926634992332820282019728792003956564819949:=by
 have:=x.isLt
 have h:=Z0bu
 unfold fv
 omega
theorem Z064 (n:Int):fv (fi n)=n%57896044618658097711785492504343953926634992332820282019728792003956564819949:=Zhl n
def pwF (x:F):Nat->F
 | 0=>1
 | n+1=>pwF x n*x
theorem Zyi (x:F):pwF x 0=1:=rfl
theorem Zl6 (x:F) (n:Nat):pwF x (n+1)=pwF x n*x:=rfl
theorem Z032 (x:F) (m n:Nat):pwF x (m+n)=pwF x m*pwF x n:=by
 induction n with
 | zero=>rw [Nat.add_zero,Zyi]; generalize pwF x m=z; grind -lia -linarith (splits:=0)
 | succ n ih=>rw [<- Nat.add_assoc,Zl6,Zl6,ih]; generalize pwF x m=z; generalize pwF x n=w; grind -lia -linarith (splits:=0)
theorem Z0c2 (x:F) (n:Nat):(pwF x n).val=x.val^n%pN:=by
 induction n with
 | zero=>rw [Zyi,Nat.pow_zero]; decide +kernel
 | succ n ih=>rw [Zl6,Fin.val_mul,ih,Nat.mod_mul_mod,Nat.pow_succ]
theorem Z0at {x:F} {n:Nat} (hn:n=pN-1) (hx:x≠0):pwF x n=1:=by
 have h0:x.val%pN≠0:=by
  intro h
  apply hx
  rw [Nat.mod_eq_of_lt x.isLt] at h
  exact Fin.ext h
 have h:=Z01v h0
 rw [<- hn] at h
 unfold One at h
 apply Fin.ext
 rw [Z0c2,h]
 decide +kernel
theorem Z023 {x:F} {n:Nat} (hn:n+2=pN) (hx:x≠0):x*pwF x n=1:=by
 have h:=Z0at (n:=n+1) (by omega) hx
 rw [Zl6] at h
 rw [<- h]
 generalize pwF x n=z
 grind -lia -linarith (splits:=0)
end Go.Proofs.YtkjfpenagcdmcaaGreatDoor
namespace Go.Proofs.YtkjfpenagcdmcaaGreatDoor
open Go Go.Sx Go.RowKit
set_option linter.all false
set_option maxRecDepth 100000
structure Rep (q:Q4) (P:G):Prop where
 z:fi q.z≠0
 x:fi q.x=P.x*fi q.z
 y:fi q.y=P.y*fi q.z
 t:fi q.t=P.x*P.y*fi q.z
theorem Z0ec:fi D2=dF+dF:=by decide +kernel
theorem Z0ed:fi DD=dF:=by decide +kernel
theorem Zb7 {a b:F} (ha:a≠0) (hb:b≠0):a*b≠0:=fun h=>(Zs6 h).elim ha hb
theorem Z11d:(1:F)+1≠0:=by decide +kernel
theorem Zro {e f g h:Int} {P:G} (hf:fi f≠0) (hg:fi g≠0) (he:fi e=P.x*fi g) (hh:fi h=P.y*fi f):Rep (Zt0 e f g h) P:=by
 constructor
 ·show fi (f*g)≠0
  rw [Z2l]; exact Zb7 hf hg
 ·show fi (e*f)=_*fi (f*g)
  rw [Z2l,Z2l,he]; grind -lia -linarith (splits:=0)
 ·show fi (g*h)=_*fi (f*g)
  rw [Z2l,Z2l,hh]; grind -lia -linarith (splits:=0)
 ·show fi (e*h)=_*fi (f*g)
  rw [Z2l,Z2l,he,hh]; grind -lia -linarith (splits:=0)
theorem Zxe (P Q:G):(Zg9 P Q).x*(1+dF*P.x*Q.x*P.y*Q.y)=P.x*Q.y+P.y*Q.x:=by
 have h:=Z72 (den1 P.on Q.on)
 show (P.x*Q.y+P.y*Q.x)*Zy3 (1+dF*P.x*Q.x*P.y*Q.y)*_=_
 generalize Zy3 (1+dF*P.x*Q.x*P.y*Q.y)=i at *
 generalize dF=d at *
 grind -lia -linarith (splits:=0)
theorem Zxf (P Q:G):(Zg9 P Q).y*(1-dF*P.x*Q.x*P.y*Q.y)=P.y*Q.y+P.x*Q.x:=by
 have h:=Z72 (den2 P.on Q.on)
 show (P.y*Q.y+P.x*Q.x)*Zy3 (1-dF*P.x*Q.x*P.y*Q.y)*_=_
 generalize Zy3 (1-dF*P.x*Q.x*P.y*Q.y)=i at *
 generalize dF=d at *
 grind -lia -linarith (splits:=0)
theorem Z0cp {p q:Q4} {P Q:G} (hp:Rep p P) (hq:Rep q Q):Rep (qadd p q) (Zg9 P Q):=by
 have d1:=den1 P.on Q.on
 have d2:=den2 P.on Q.on
 have ax:=Zxe P Q
 have ay:=Zxf P Q
 have hz:=Zb7 Z11d (Zb7 hp.z hq.z)
 have ef:fi ((p.z+p.z)*q.z-p.t*D2*q.t)=(1+1)*(fi p.z*fi q.z)*(1-dF*P.x*Q.x*P.y*Q.y):=by
  simp only [Z2l,Zhk,Zd6,Z0ec,hp.t,hq.t]
  generalize dF=d at *
  grind -lia -linarith (splits:=0)
 have eg:fi ((p.z+p.z)*q.z+p.t*D2*q.t)=(1+1)*(fi p.z*fi q.z)*(1+dF*P.x*Q.x*P.y*Q.y):=by
  simp only [Z2l,Zhk,Zd6,Z0ec,hp.t,hq.t]
  generalize dF=d at *
  grind -lia -linarith (splits:=0)
 refine Zro ?_ ?_ ?_ ?_
 ·rw [ef]; exact Zb7 hz d2
 ·rw [eg]; exact Zb7 hz d1
 ·rw [eg]
  simp only [Z2l,Zhk,Zd6,hp.x,hq.x,hp.y,hq.y]
  generalize dF=d at *
  generalize (Zg9 P Q).x=X at *
  grind -lia -linarith (splits:=0)
 ·rw [ef]
  simp only [Z2l,Zhk,Zd6,hp.x,hq.x,hp.y,hq.y]
  generalize dF=d at *
  generalize (Zg9 P Q).y=Y at *
  grind -lia -linarith (splits:=0)
theorem Z0cr {p:Q4} {P:G} (hp:Rep p P):Rep (qdbl p) (Zg9 P P):=by
 have d1:=den1 P.on P.on
 have d2:=den2 P.on P.on
 have ax:=Zxe P P
 have ay:=Zxf P P
 have on:=P.on.eq
 have ef:fi (p.z*p.z+p.z*p.z+(p.x*p.x-p.y*p.y))=(fi p.z*fi p.z)*(1-dF*P.x*P.x*P.y*P.y):=by
  simp only [Z2l,Zhk,Zd6,hp.x,hp.y]
  generalize dF=d at *
  grind -lia -linarith (splits:=0)
 have eg:fi (p.x*p.x-p.y*p.y) = - (fi p.z*fi p.z)*(1+dF*P.x*P.x*P.y*P.y):=by
  simp only [Z2l,Zhk,Zd6,hp.x,hp.y]
  generalize dF=d at *
  grind -lia -linarith (splits:=0)
 have hz:=Zb7 hp.z hp.z
 have hz' : - (fi p.z*fi p.z)≠0:=by
  intro h; apply hz
  grind -lia -linarith (splits:=0)
 refine Zro ?_ ?_ ?_ ?_
 ·rw [ef]; exact Zb7 hz d2
 ·rw [eg]; exact Zb7 hz' d1
 ·rw [eg]
  simp only [Z2l,Zhk,Zd6,hp.x,hp.y]
  generalize dF=d at *
  generalize (Zg9 P P).x=X at *
  grind -lia -linarith (splits:=0)
 ·rw [ef]
  simp only [Z2l,Zhk,Zd6,hp.x,hp.y]
  generalize dF=d at *
  generalize (Zg9 P P).y=Y at *
  grind -lia -linarith (splits:=0)
theorem Z03j {q:Q4} {P:G} (h:Rep q P):Rep (qred q) P:=by
 constructor
 ·show fi (q.z%PP)≠0; rw [Zh3]; exact h.z
 ·show fi (q.x%PP)=_*fi (q.z%PP); rw [Zh3,Zh3]; exact h.x
 ·show fi (q.y%PP)=_*fi (q.z%PP); rw [Zh3,Zh3]; exact h.y
 ·show fi (q.t%PP)=_*fi (q.z%PP); rw [Zh3,Zh3]; exact h.t
theorem Zyp:Rep Z039 Ziz:=by
 constructor
 ·show fi 1≠0; decide +kernel
 ·show fi 0=0*fi 1; decide +kernel
 ·show fi 1=1*fi 1; decide +kernel
 ·show fi 0=0*1*fi 1; decide +kernel
theorem Zyn {p q:Q4} {P Q:G} (hp:Rep p P) (hq:Rep q Q):Rep (Zwu p q) (Zg9 P Q):=Z03j (Z0cp hp hq)
theorem Zo9 {p:Q4} {P:G} (hp:Rep p P):Rep (Zii p) (Zg9 P P):=Z03j (Z0cr hp)
theorem Z03k {p:Q4} {P:G} (hp:Rep p P) : ∀ j,Rep (tab p j) (Zp6 j P)
 | 0=>Zyp
 | j+1=>Zyn (Z03k hp j) hp
theorem Z06f (P:G):Zp6 1 P=P:=Z04y P
theorem Zeb (P:G):Zp6 2 P=Zg9 P P:=by
 show Zg9 (Zp6 1 P) P=_
 rw [Z06f]
theorem Z076 {p:Q4} {P:G} (hp:Rep p P):Rep (Zzh p) (Zp6 16 P):=by
 have h:=Zo9 (Zo9 (Zo9 (Zo9 hp)))
 rw [<- Zeb,<- Zeb,<- Zeb,<- Zeb,<- Zca,<- Zca,<- Zca] at h
 exact h
def nacc (k:LI):Nat->Nat
 | 0=>0
 | i+1=>16*nacc k i+(nib k i).toNat
theorem Zyo {p:Q4} {P:G} (k:LI) (hp:Rep p P) : ∀ i,Rep (Zuv k p i) (Zp6 (nacc k i) P)
 | 0=>Zyp
 | i+1=>by
  have h:=Zyn (Z076 (Zyo k hp i)) (Z03k hp (nib k i).toNat)
  rw [<- Zca,<- Zo1] at h
  exact h
def Zp1 (k:LI):Nat->Int
 | 0=>0
 | j+1=>Zp1 k j*256+k.getD (31-j) 0
theorem Zsm {k:LI} (hk:Byt k) : ∀ j,(nacc k (2*j):Int)=Zp1 k j
 | 0=>rfl
 | j+1=>by
  have ih:=Zsm hk j
  have hb:=hk (31-j)
  have e1:nib k (2*j)=k.getD (31-j) 0 / 16%16:=by unfold nib; rw [if_pos (by omega),show 2*j / 2=j by omega]
  have e2:nib k (2*j+1)=k.getD (31-j) 0%16:=by unfold nib; rw [if_neg (by omega),show (2*j+1) / 2=j by omega]
  show ((16*(16*nacc k (2*j)+(nib k (2*j)).toNat)+(nib k (2*j+1)).toNat:Nat):Int)=Zp1 k j*256+k.getD (31-j) 0
  rw [e1,e2]
  generalize k.getD (31-j) 0=b at *
  generalize nacc k (2*j)=n at *
  generalize Zp1 k j=m at *
  omega
def Zci (x:LI):Int:=x.getD 0 0+x.getD 1 0*256+x.getD 2 0*65536+x.getD 3 0*16777216+x.getD 4 0*4294967296+x.getD 5 0*1099511627776+x.getD 6 0*281474976710656+x.getD 7 0*72057594037927936+x.getD 8 0*18446744073709551616+x.getD 9 0*4722366482869645213696+x.getD 10 0*1208925819614629174706176+x.getD 11 0*309485009821345068724781056+x.getD 12 0*79228162514264337593543950336+x.getD 13 0*20282409603651670423947251286016+x.getD 14 0*5192296858534827628530496329220096+x.getD 15 0*1329227995784915872903807060280344576+x.getD 16 0*340282366920938463463374607431768211456+x.getD 17 0*87112285931760246646623899502532662132736+x.getD 18 0*22300745198530623141535718272648361505980416+x.getD 19 0*5708990770823839524233143877797980545530986496+x.getD 20 0*1461501637330902918203684832716283019655932542976+x.getD 21 0*374144419156711147060143317175368453031918731001856+x.getD 22 0*95780971304118053647396689196894323976171195136475136+x.getD 23 0*24519928653854221733733552434404946937899825954937634816+x.getD 24 0*6277101735386680763835789423207666416102355444464034512896+x.getD 25 0*1606938044258990275541962092341162602522202993782792835301376+x.getD 26 0*411376139330301510538742295639337626245683966408394965837152256+x.getD 27 0*105312291668557186697918027683670432318895095400549111254310977536+x.getD 28 0*26959946667150639794667015087019630673637144422540572481103610249216+x.getD 29 0*6901746346790563787434755862277025452451108972170386555162524223799296+x.getD 30 0*1766847064778384329583297500742918515827483896875618958121606201292619776+x.getD 31 0*452312848583266388373324160190187140051835877600158453279131187530910662656
theorem Zk8 (k:LI):Zp1 k 32=Zci k:=by
 simp only [Zp1,Zci]
 simp only [Nat.reduceSub]
 omega
theorem Z0ba {k:LI} (hk:Byt k):nacc k 64=(Zci k).toNat:=by
 have h:(nacc k 64:Int)=Zp1 k 32:=Zsm hk 32
 rw [Zk8] at h
 omega
theorem Zgu {k:LI} (hk:Byt k):0<=Zci k:=by
 have h:(nacc k 64:Int)=Zp1 k 32:=Zsm hk 32
 rw [Zk8] at h
 omega
def bnum (e:LI):Nat->Nat
 | 0=>0
 | k+1=>if ebit e (255-k) then 2*bnum e k+1 else 2*bnum e k
theorem Z062 (x:Int) (e:LI) : ∀ k,fi (pw x e k)=pwF (fi x) (bnum e k)
 | 0=>fi_1
 | k+1=>by
  have ih:=Z062 x e k
  simp only [pw,bnum]
  split
  ·rw [Zh3,Z2l,Zh3,Z2l,ih,Zl6,Nat.two_mul,Z032]
  ·rw [Zh3,Z2l,ih,Nat.two_mul,Z032]
theorem Zxj:bnum Zvr 256+2=pN:=by decide +kernel
theorem Z0au {a:Int} (h:fi a≠0):fi a*fi (finv a)=1:=by
 unfold finv
 rw [Z062,Zh3]
 exact Z023 Zxj h
def Ztw (P:G):LI:=Zox (fv P.x) (fv P.y)
theorem Zw7 {x y u v:Int} (h1:x%PP=u%PP) (h2:y%PP=v%PP):Zox x y=Zox u v:=by
 unfold Zox; rw [h1,h2]
theorem Z0cq {q:Q4} {P:G} (h:Rep q P):fi (q.x*finv q.z)=P.x/\fi (q.y*finv q.z)=P.y:=by
 have hi:=Z0au h.z
 rw [Z2l,Z2l,h.x,h.y]
 generalize fi (finv q.z)=i at *
 generalize fi q.z=z at *
 exact ⟨by grind -lia -linarith (splits:=0),by grind -lia -linarith (splits:=0)⟩
theorem Zxw (x:F):fv x%PP=fv x:=Int.emod_eq_of_lt (Zxx x).1 (Zxx x).2
theorem Z0aq {q:Q4} {P:G} (h:Rep q P):encQ q=Ztw P:=by
 have ha:=Z0cq h
 refine Zw7 ?_ ?_
 ·rw [Zxw,<- ha.1,Z064]
 ·rw [Zxw,<- ha.2,Z064]
theorem Zoo (n:Int):Byt (byt n):=byt_of (by
 unfold byt
 repeat' (first | exact List.forall_mem_nil _ | refine List.forall_mem_cons.2 ⟨?_,?_⟩)
 all_goals omega)
theorem Z92 (n:Int):(byt n).length=32:=rfl
theorem Z0ln {x:Int} (h0:0<=x) (h1:x<128):Z4 .or .u8 x 128=x+128:=by
 have:x=((x.toNat:Nat):Int):=by omega
 rw [this]
 have hx:x.toNat<128:=by omega
 generalize x.toNat=n at *
 have h : ∀ n:Fin 128,Z4 .or .u8 ((n.val:Nat):Int) 128=(n.val:Int)+128:=by decide +kernel
 exact h ⟨n,hx⟩
theorem Z08j {n:Int} (h0:0<=n) (h1:n<PP):0<=(byt n).getD 31 0/\(byt n).getD 31 0<128:=by
 have e:(byt n).getD 31 0=n / 452312848583266388373324160190187140051835877600158453279131187530910662656%256:=rfl
 rw [e]
 unfold PP at h1
 omega
theorem Zx3 {l:LI} {i:Nat} {v:Int} (h:i<l.length):(Z2g l i v).length=l.length:=by rw [Z049 h,List.length_set]
theorem Z0ap (x y:Int):Byt (Zox x y):=by
 unfold Zox
 split
 ·refine Zjg (Zoo _) ?_
  have:=Z08j (n:=y%PP) (Int.emod_nonneg _ (by decide)) (Int.emod_lt_of_pos _ Zoi)
  rw [Z0ln this.1 this.2]
  omega
 ·exact Zoo _
theorem Zzl (x y:Int):(Zox x y).length=32:=by
 unfold Zox
 split
 ·rw [Zx3 (by rw [Z92]; decide),Z92]
 ·exact Z92 _
end Go.Proofs.YtkjfpenagcdmcaaGreatDoor
namespace Go.Proofs.YtkjfpenagcdmcaaGreatDoor
open Go Go.Sx Go.RowKit
open Go.IntKind (wrap)
set_option linter.all false
set_option maxRecDepth 100000
set_option maxHeartbeats 1000000
def rV (l:LI):Nat->Int
  | 0=>0
  | n+1=>rV l n+l.getD n 0*(67108864:Int)^n
theorem Zai (l:LI) (n:Nat):rV l (n+1)=rV l n+l.getD n 0*(67108864:Int)^n:=rfl
theorem Zpr (l:LI) (i:Nat) (v:Int) : ∀ n,n<=i->rV (Z2g l i v) n=rV l n
  | 0,_=>rfl
  | n+1,h=>by rw [Zai,Zai,Zpr l i v n (by omega),Z1a,if_neg (by omega)]
theorem Zn8 (l:LI) (i:Nat) (v:Int) : ∀ n,i<n->rV (Z2g l i v) n=rV l n+(v-l.getD i 0)*(67108864:Int)^i
  | 0,h=>by omega
  | n+1,h=>by
    rw [Zai,Zai,Z1a]
    by_cases hi:n=i
    · subst hi
      rw [if_pos rfl,Zpr l n v n (Nat.le_refl _),Int.sub_mul]
      omega
    · rw [if_neg hi,Zn8 l i v n (by omega)]
      omega
theorem Zys (n:Nat):0<(67108864:Int)^n:=Int.pow_pos (by decide)
theorem Zpq {l:LI} : ∀ n,(∀ i,i<n->0<=l.getD i 0/\l.getD i 0<67108864)->0<=rV l n/\rV l n<(67108864:Int)^n
  | 0,_=>by show (0:Int)<=0/\(0:Int)<1; omega
  | n+1,h=>by
    have ih:=Zpq n (fun i hi=>h i (by omega))
    have h1:=h n (by omega)
    have hp:=Zys n
    rw [Zai,Int.pow_succ]
    generalize (67108864:Int)^n=w at *
    generalize l.getD n 0=x at *
    generalize rV l n=v at *
    have a:0<=x*w:=Int.mul_nonneg h1.1 (by omega)
    have b:x*w<=67108863*w:=Int.mul_le_mul_of_nonneg_right (by omega) (by omega)
    omega
theorem Z017 {x:Int} (h0:0<=x) (h1:x<18446744073709551616):Z4 .and .u64 x 67108863=x%67108864:=Zlq 26 (by decide) (by decide) h0 h1
theorem Z0pp {x:Int} (h0:0<=x) (h1:x<18446744073709551616):Z4 .and .u64 x 2097151=x%2097152:=Zlq 21 (by decide) (by decide) h0 h1
theorem Z07q (x:Int):Zx .u64 x 26=x / 67108864:=by have:=Z9z .u64 (x:=x) (n:=26) (by decide); simpa using this
theorem Z118 (x:Int):Zx .u64 x 21=x / 2097152:=by have:=Z9z .u64 (x:=x) (n:=21) (by decide); simpa using this
theorem Z11a (x:Int):Zx .u64 x 52=x / 4503599627370496:=by have:=Z9z .u64 (x:=x) (n:=52) (by decide); simpa using this
theorem Z5k {l:LI} {i:Nat} {v:Int} (h:i<l.length):(Z2g l i v).length=l.length:=by rw [Z049 h,List.length_set]
theorem Z2u {i:Nat} (h:i<1000000):wrap .i64 ((i:Int)+1)=((i+1:Nat):Int):=by rw [Zk (by omega) (by omega)]; rfl
def rdig (n:Int):LI:=[n%67108864,n / 67108864%67108864,n / 4503599627370496%67108864,n / 302231454903657293676544%67108864,n / 20282409603651670423947251286016%67108864,n / 1361129467683753853853498429727072845824%67108864,n / 91343852333181432387730302044767688728495783936%67108864,n / 6129982163463555433433388108601236734474956488734408704%67108864,n / 411376139330301510538742295639337626245683966408394965837152256%67108864,n / 27606985387162255149739023449108101809804435888681546220650096895197184%67108864]
def rn (n:Int):LI:=rdig (n%PP)
theorem Zux (l:LI):rV l 10=l.getD 0 0+l.getD 1 0*67108864+l.getD 2 0*4503599627370496+l.getD 3 0*302231454903657293676544+l.getD 4 0*20282409603651670423947251286016+l.getD 5 0*1361129467683753853853498429727072845824+l.getD 6 0*91343852333181432387730302044767688728495783936+l.getD 7 0*6129982163463555433433388108601236734474956488734408704+l.getD 8 0*411376139330301510538742295639337626245683966408394965837152256+l.getD 9 0*27606985387162255149739023449108101809804435888681546220650096895197184:=by
  simp only [rV]
  have e0:(67108864:Int)^0=1:=by decide
  have e1:(67108864:Int)^1=67108864:=by decide
  have e2:(67108864:Int)^2=4503599627370496:=by decide
  have e3:(67108864:Int)^3=302231454903657293676544:=by decide
  have e4:(67108864:Int)^4=20282409603651670423947251286016:=by decide
  have e5:(67108864:Int)^5=1361129467683753853853498429727072845824:=by decide
  have e6:(67108864:Int)^6=91343852333181432387730302044767688728495783936:=by decide
  have e7:(67108864:Int)^7=6129982163463555433433388108601236734474956488734408704:=by decide
  have e8:(67108864:Int)^8=411376139330301510538742295639337626245683966408394965837152256:=by decide
  have e9:(67108864:Int)^9=27606985387162255149739023449108101809804435888681546220650096895197184:=by decide
  rw [e0,e1,e2,e3,e4,e5,e6,e7,e8,e9]
  omega
theorem Zo0 {l:LI} (h:l.length=10):l = [l.getD 0 0,l.getD 1 0,l.getD 2 0,l.getD 3 0,l.getD 4 0,l.getD 5 0,l.getD 6 0,l.getD 7 0,l.getD 8 0,l.getD 9 0]:=by
  match l,h with
  | [a0,a1,a2,a3,a4,a5,a6,a7,a8,a9],_=>rfl
theorem Zps {l:LI} (hl:l.length=10) (hd : ∀ i,0<=l.getD i 0/\l.getD i 0<67108864):l=rdig (rV l 10):=by
  rw [Zux]
  have e:=Zo0 hl
  have h0:=hd 0
  have h1:=hd 1
  have h2:=hd 2
  have h3:=hd 3
  have h4:=hd 4
  have h5:=hd 5
  have h6:=hd 6
  have h7:=hd 7
  have h8:=hd 8
  have h9:=hd 9
  generalize hq:l.getD 0 0+l.getD 1 0*67108864+l.getD 2 0*4503599627370496+l.getD 3 0*302231454903657293676544+l.getD 4 0*20282409603651670423947251286016+l.getD 5 0*1361129467683753853853498429727072845824+l.getD 6 0*91343852333181432387730302044767688728495783936+l.getD 7 0*6129982163463555433433388108601236734474956488734408704+l.getD 8 0*411376139330301510538742295639337626245683966408394965837152256+l.getD 9 0*27606985387162255149739023449108101809804435888681546220650096895197184=n
  refine e.trans ?_
  clear e hd hl
  generalize l.getD 0 0=d0 at *
  generalize l.getD 1 0=d1 at *
  generalize l.getD 2 0=d2 at *
  generalize l.getD 3 0=d3 at *
  generalize l.getD 4 0=d4 at *
  generalize l.getD 5 0=d5 at *
  generalize l.getD 6 0=d6 at *
  generalize l.getD 7 0=d7 at *
  generalize l.getD 8 0=d8 at *
  generalize l.getD 9 0=d9 at *
  unfold rdig
  simp only [List.cons.injEq,and_true]
  refine ⟨?_,?_,?_,?_,?_,?_,?_,?_,?_,?_⟩ <;> omega
theorem Z072 (n:Int) : ∀ i,0<=(rdig n).getD i 0/\(rdig n).getD i 0<67108864:=by
  intro i
  match i with
  | 0=>show 0<=_%_/\_%_<_; omega
  | 1=>show 0<=_%_/\_%_<_; omega
  | 2=>show 0<=_%_/\_%_<_; omega
  | 3=>show 0<=_%_/\_%_<_; omega
  | 4=>show 0<=_%_/\_%_<_; omega
  | 5=>show 0<=_%_/\_%_<_; omega
  | 6=>show 0<=_%_/\_%_<_; omega
  | 7=>show 0<=_%_/\_%_<_; omega
  | 8=>show 0<=_%_/\_%_<_; omega
  | 9=>show 0<=_%_/\_%_<_; omega
  | i+10=>show (0:Int)<=0/\(0:Int)<_; omega
theorem Z03b {n:Int} (h0:0<=n) (h1:n<57896044618658097711785492504343953926634992332820282019728792003956564819968):rV (rdig n) 10=n:=by
  rw [Zux]
  simp only [rdig,List.getD_cons_zero,List.getD_cons_succ]
  omega
theorem Zoj (n:Int):0<=n%PP/\n%PP<PP:=⟨Int.emod_nonneg _ (by decide),Int.emod_lt_of_pos _ Zoi⟩
theorem Zuw (n:Int):rV (rn n) 10=n%PP:=Z03b (Zoj n).1 (by have:=(Zoj n).2; unfold PP at this ⊢; omega)
theorem Zjf {a b:Int} (h:a%PP=b%PP):rn a=rn b:=by unfold rn; rw [h]
theorem Z03n (a:Int):rn (a%PP)=rn a:=Zjf (Zw6 a)
theorem Z096 (n:Int):(rn n).length=10:=rfl
theorem Zpw (n:Int) : ∀ i,0<=(rn n).getD i 0/\(rn n).getD i 0<67108864:=Z072 _
theorem Z0op {a b:Int} (h:rn a=rn b):a%PP=b%PP:=by rw [<- Zuw,<- Zuw,h]
theorem Ztq (k:LI->Option (LI)) (m:Nat) : ∀ (n i:Nat) (a:LI),i+m=9->a.length=10->(∀ j,0<=a.getD j 0)->(∀ j,j<i->a.getD j 0<67108864)->(∀ j,i<j->a.getD j 0<1152921504606846976)->a.getD i 0<1152921504606846976+34359738368 ->
    ∃ c,Z5g k (n+1+m) (i:Int) a=k c/\c.length=10/\(∀ j,0<=c.getD j 0)/\(∀ j,j<9->c.getD j 0<67108864)/\c.getD 9 0<1152921504606846976+34359738368/\rV c 10=rV a 10:=by
  induction m with
  | zero =>
    intro n i a hi hl h0 h1 h2 h3
    have e:i=9:=by omega
    subst e
    refine ⟨a,?_,hl,h0,h1,h3,rfl⟩
    rw [Nat.add_zero,Z5g,Z9r,Z1e (by decide)]
  | succ m ih =>
    intro n i a hi hl h0 h1 h2 h3
    have e1:=Z2u (i:=i) (by omega)
    have a0:=h0 i
    have b0:=h0 (i+1)
    have b2:=h2 (i+1) (by omega)
    have hs:wrap .u64 (a.getD (i+1) 0+a.getD i 0 / 67108864)=a.getD (i+1) 0+a.getD i 0 / 67108864:=Ze (by omega) (by omega)
    have hg:(Z2g a (i+1) (a.getD (i+1) 0+a.getD i 0 / 67108864)).getD i 0=a.getD i 0:=by rw [Z1a,if_neg (by omega)]
    have hgd : ∀ j,(Z2g (Z2g a (i+1) (a.getD (i+1) 0+a.getD i 0 / 67108864)) i (a.getD i 0%67108864)).getD j 0=if j=i then a.getD i 0%67108864 else if j=i+1 then a.getD (i+1) 0+a.getD i 0 / 67108864 else a.getD j 0:=by
      intro j; rw [Z1a,Z1a]
    have hlen:(Z2g (Z2g a (i+1) (a.getD (i+1) 0+a.getD i 0 / 67108864)) i (a.getD i 0%67108864)).length=10:=by rw [Z5k (by rw [Z5k (by omega)]; omega),Z5k (by omega),hl]
    obtain ⟨c,ec,c1,c2,c3,c4,c5⟩:=ih n (i+1) _ (by omega) hlen
      (by intro j; rw [hgd]; have:=h0 j; split <;> (try split) <;> omega)
      (by intro j hj; rw [hgd]; split
          · omega
          · rw [if_neg (by omega)]; exact h1 j (by omega))
      (by intro j hj; rw [hgd,if_neg (by omega),if_neg (by omega)]; exact h2 j (by omega))
      (by rw [hgd,if_neg (by omega),if_pos rfl]; omega)
    refine ⟨c,?_,c1,c2,c3,c4,?_⟩
    · rw [<- Nat.add_assoc,Z5g,Z9r,Z1s (decide_eq_true (by omega))]
      simp only [Zr,e1,Int.toNat_natCast,Z07q,hs,hg]
      rw [Z017 a0 (by omega),Z0b (Z19 (by omega) (by omega)),Z0b (Z19 (by omega) (by omega)),Z0b (Z19 (by omega) (by omega)),Z0b (Z19 (by omega) (by omega)),Z0b (Z19 (by omega) (by omega))]
      exact ec
    · rw [c5,Zn8 _ _ _ _ (by omega),Zn8 _ _ _ _ (by omega),hg,Int.pow_succ]
      have hd:=Int.mul_ediv_add_emod (a.getD i 0) 67108864
      generalize a.getD i 0 / 67108864=d at *
      generalize a.getD i 0%67108864=r at *
      generalize a.getD i 0=x at *
      generalize a.getD (i+1) 0=y at *
      generalize (67108864:Int)^i=w at *
      generalize rV a 10=v at *
      clear ih ec hgd hs hg c1 c2 c3 c4 c5 hlen
      grind -lia -linarith (splits:=0)
theorem Zr8 {a:LI} (hl:a.length=10) (h0 : ∀ j,0<=a.getD j 0/\a.getD j 0<1152921504606846976) : ∃ c,Zcm a=some c/\c.length=10/\(∀ j,0<=c.getD j 0)/\(∀ j,j<9->c.getD j 0<67108864)/\c.getD 9 0<1152921504606846976+34359738368/\rV c 10=rV a 10:=by
  obtain ⟨n,hn⟩ : ∃ n,big=n+1+9:=⟨18446744073709551606,Z21⟩
  rw [Zcm,Z1v,hn]
  exact Ztq some 9 n 0 a (by omega) hl (fun j=>(h0 j).1) (fun j h=>by omega) (fun j _=>(h0 j).2) (by have:=(h0 0).2; omega)
theorem Zon {a b:LI} (ha : ∀ i,0<=a.getD i 0/\a.getD i 0<67108864) (hb : ∀ i,0<=b.getD i 0/\b.getD i 0<67108864) (k:Unit->Option Bool) (hk:k ()=some false) : ∀ (m n:Nat),m<=10 ->
    Z7j a b k (n+1+m) ((m:Int)-1)=some (decide (rV a m<rV b m))
  | 0,n,_=>by
    rw [Nat.add_zero,Z7j,Zdj,Z1e (by decide),hk]
    simp [rV]
  | m+1,n,hm=>by
    have ih:=Zon ha hb k hk m n (by omega)
    have e0:((m+1:Nat):Int)-1=(m:Int):=by omega
    have e1:wrap .i64 ((m:Int)-1)=(m:Int)-1:=Zk (by omega) (by omega)
    have ra:=Zpq m (fun i _=>ha i)
    have rb:=Zpq m (fun i _=>hb i)
    rw [e0,<- Nat.add_assoc,Z7j,Zdj,Z1s (decide_eq_true (by omega)),Z0b (Z19 (by omega) (by omega)),Z0b (Z19 (by omega) (by omega))]
    simp only [Zr,e1,Int.toNat_natCast]
    rw [Zai,Zai]
    by_cases h:a.getD m 0=b.getD m 0
    · rw [Z1e (by rw [h]; simp),ih,h]
      congr 1
      by_cases h2:rV a m<rV b m
      · rw [decide_eq_true h2,decide_eq_true (by omega)]
      · rw [decide_eq_false h2,decide_eq_false (by omega)]
    · rw [Z1s (by simpa using h),Z0b (Z19 (by omega) (by omega)),Z0b (Z19 (by omega) (by omega))]
      congr 1
      generalize a.getD m 0=x at *
      generalize b.getD m 0=y at *
      generalize rV a m=v at *
      generalize rV b m=u at *
      have hp:=Zys m
      generalize (67108864:Int)^m=w at *
      by_cases h2:x<y
      · have h3:(x+1)*w<=y*w:=Int.mul_le_mul_of_nonneg_right (by omega) (by omega)
        rw [Int.add_mul,Int.one_mul] at h3
        rw [decide_eq_true h2,decide_eq_true (by omega)]
      · have h3:(y+1)*w<=x*w:=Int.mul_le_mul_of_nonneg_right (by omega) (by omega)
        rw [Int.add_mul,Int.one_mul] at h3
        rw [decide_eq_false h2,decide_eq_false (by omega)]
theorem Z01e {a b:LI} (ha : ∀ i,0<=a.getD i 0/\a.getD i 0<67108864) (hb : ∀ i,0<=b.getD i 0/\b.getD i 0<67108864):Zja a b=some (decide (rV a 10<rV b 10)):=by
  obtain ⟨n,hn⟩ : ∃ n,big=n+1+10:=⟨18446744073709551605,Z21⟩
  rw [Zja,Z1v,hn]
  exact Zon ha hb _ rfl 10 n (by omega)
theorem Z029 {b:LI} (hb : ∀ i,0<=b.getD i 0/\b.getD i 0<67108864) (k:LI->Option (LI)) {a0:LI} (m:Nat) : ∀ (n i:Nat) (c:Int) (a:LI),i+m=10->a.length=10->(c=0∨c=1)->(∀ j,0<=a.getD j 0/\a.getD j 0<67108864)->(∀ j,i<=j->a.getD j 0=a0.getD j 0)->rV a i=rV a0 i-rV b i+c*(67108864:Int)^i ->
    ∃ r c',Z4p b k (n+1+m) c (i:Int) a=k r/\r.length=10/\(c'=0∨c'=1)/\(∀ j,0<=r.getD j 0/\r.getD j 0<67108864)/\rV r 10=rV a0 10-rV b 10+c'*(67108864:Int)^10:=by
  induction m with
  | zero =>
    intro n i c a hi hl hc ha hj hv
    have e:i=10:=by omega
    subst e
    refine ⟨a,c,?_,hl,hc,ha,hv⟩
    rw [Nat.add_zero,Z4p,Z8k,Z1e (by decide)]
  | succ m ih =>
    intro n i c a hi hl hc ha hj hv
    have e1:=Z2u (i:=i) (by omega)
    have h1:=ha i
    have h2:=hb i
    have w1:wrap .u64 (a.getD i 0+67108863)=a.getD i 0+67108863:=Ze (by omega) (by omega)
    have w2:wrap .u64 (a.getD i 0+67108863+1)=a.getD i 0+67108864:=by rw [Ze (by omega) (by omega)]; omega
    have w3:wrap .u64 (a.getD i 0+67108864-b.getD i 0)=a.getD i 0+67108864-b.getD i 0:=Ze (by omega) (by omega)
    have w4:wrap .u64 (a.getD i 0+67108864-b.getD i 0-c)=a.getD i 0+67108864-b.getD i 0-c:=Ze (by omega) (by omega)
    have w5:wrap .u64 (1-(a.getD i 0+67108864-b.getD i 0-c) / 67108864)=1-(a.getD i 0+67108864-b.getD i 0-c) / 67108864:=Ze (by omega) (by omega)
    obtain ⟨r,c',er,r1,r2,r3,r4⟩:=ih n (i+1) (1-(a.getD i 0+67108864-b.getD i 0-c) / 67108864) (Z2g a i ((a.getD i 0+67108864-b.getD i 0-c)%67108864)) (by omega) (by rw [Z5k (by omega),hl]) (by omega)
      (by intro j; rw [Z1a]; split
          · omega
          · exact ha j)
      (by intro j h; rw [Z1a,if_neg (by omega)]; exact hj j (by omega)) (by
        rw [Zai,Zai,Zai,Zpr _ _ _ _ (Nat.le_refl _),Z1a,if_pos rfl,hv,<- hj i (Nat.le_refl _),Int.pow_succ]
        have hd:=Int.mul_ediv_add_emod (a.getD i 0+67108864-b.getD i 0-c) 67108864
        generalize (a.getD i 0+67108864-b.getD i 0-c) / 67108864=d at *
        generalize (a.getD i 0+67108864-b.getD i 0-c)%67108864=q at *
        generalize a.getD i 0=x at *
        generalize b.getD i 0=y at *
        generalize (67108864:Int)^i=w at *
        generalize rV a0 i=v at *
        generalize rV b i=u at *
        clear ih w1 w2 w3 w4 w5 hj hv e1 ha hb
        grind -lia -linarith (splits:=0))
    refine ⟨r,c',?_,r1,r2,r3,r4⟩
    rw [<- Nat.add_assoc,Z4p,Z8k,Z1s (decide_eq_true (by omega))]
    simp only [Zr,e1,Int.toNat_natCast,Z07q,w1,w2,w3,w4,w5]
    rw [Z017 (by omega) (by omega),Z0b (Z19 (by omega) (by omega)),Z0b (Z19 (by omega) (by omega)),Z0b (Z19 (by omega) (by omega))]
    exact er
theorem Zp3 {a b:LI} (hl:a.length=10) (ha : ∀ i,0<=a.getD i 0/\a.getD i 0<67108864) (hb : ∀ i,0<=b.getD i 0/\b.getD i 0<67108864) (hle:rV b 10<=rV a 10) :
    ∃ r,Z8x a b=some r/\r.length=10/\(∀ j,0<=r.getD j 0/\r.getD j 0<67108864)/\rV r 10=rV a 10-rV b 10:=by
  obtain ⟨n,hn⟩ : ∃ n,big=n+1+10:=⟨18446744073709551605,Z21⟩
  obtain ⟨r,c',er,r1,r2,r3,r4⟩:=Z029 hb some (a0:=a) 10 n 0 0 a (by omega) hl (.inl rfl) ha (fun _ _=>rfl) (by show (0:Int)=0-0+0*1; omega)
  have hr:=Zpq 10 (fun i _=>r3 i)
  have h1:=Zpq 10 (fun i _=>ha i)
  have h2:=Zpq 10 (fun i _=>hb i)
  refine ⟨r,?_,r1,r3,?_⟩
  · rw [Z8x,Z1v,hn]; exact er
  · generalize (67108864:Int)^10=w at *
    rcases r2 with h | h <;> subst h <;> omega
def Zn9:LI:=[67108845,67108863,67108863,67108863,67108863,67108863,67108863,67108863,67108863,2097151]
theorem Zmi : ∀ i,0<=Zn9.getD i 0/\Zn9.getD i 0<67108864:=by
  intro i
  simp only [List.getD]
  cases hi:Zn9[i]? with
  | none=>simp
  | some v =>
    have hm:=List.mem_of_getElem? hi
    have : ∀ x∈Zn9,0<=x/\x<67108864:=by decide
    exact this v hm
theorem Zfy:rV Zn9 10=PP:=by decide
structure Nrm (a:LI):Prop where
  len:a.length=10
  pos : ∀ j,0<=a.getD j 0
  low : ∀ j,j<9->a.getD j 0<67108864
  top:a.getD 9 0<2305843009213693952
theorem Nrm.val {a:LI} (h:Nrm a) : ∃ v,0<=v/\v<27606985387162255149739023449108101809804435888681546220650096895197184/\rV a 10=v+a.getD 9 0*27606985387162255149739023449108101809804435888681546220650096895197184:=by
  have hr:=Zpq 9 (fun i hi=>⟨h.pos i,h.low i hi⟩)
  have e:(67108864:Int)^9=27606985387162255149739023449108101809804435888681546220650096895197184:=by decide
  rw [e] at hr
  exact ⟨rV a 9,hr.1,hr.2,by rw [Zai,e]⟩
theorem Zzo {a:LI} (h:Nrm a) (h9 : ¬ a.getD 9 0>2097151) : ∃ v,rV a 10=v/\0<=v/\v<57896044618658097711785492504343953926634992332820282019728792003956564819968:=by
  obtain ⟨v,h0,h1,e⟩:=h.val
  have:=h.pos 9
  exact ⟨_,rfl,by omega,by omega⟩
theorem Zre {a:LI} (h:Nrm a) (h9:a.getD 9 0>2097151) (k:LI->Option (LI)) (n:Nat) :
    ∃ c,Z4x k (n+1) a=Z4x k n c/\Nrm c/\rV c 10=rV a 10%57896044618658097711785492504343953926634992332820282019728792003956564819968+19*(rV a 10 / 57896044618658097711785492504343953926634992332820282019728792003956564819968):=by
  obtain ⟨v,v0,v1,ev⟩:=h.val
  have p9:=h.pos 9
  have t9:=h.top
  have p0:=h.pos 0
  have l0:=h.low 0 (by decide)
  have w1:wrap .u64 (19*(a.getD 9 0 / 2097152))=19*(a.getD 9 0 / 2097152):=Ze (by omega) (by omega)
  have w2:wrap .u64 (a.getD 0 0+19*(a.getD 9 0 / 2097152))=a.getD 0 0+19*(a.getD 9 0 / 2097152):=Ze (by omega) (by omega)
  have g9:(Z2g a 0 (a.getD 0 0+19*(a.getD 9 0 / 2097152))).getD 9 0=a.getD 9 0:=by rw [Z1a,if_neg (by decide)]
  have hgd : ∀ j,(Z2g (Z2g a 0 (a.getD 0 0+19*(a.getD 9 0 / 2097152))) 9 (a.getD 9 0%2097152)).getD j 0=if j=9 then a.getD 9 0%2097152 else if j=0 then a.getD 0 0+19*(a.getD 9 0 / 2097152) else a.getD j 0:=by
    intro j; rw [Z1a,Z1a]
  have hlen:(Z2g (Z2g a 0 (a.getD 0 0+19*(a.getD 9 0 / 2097152))) 9 (a.getD 9 0%2097152)).length=10:=by rw [Z5k (by rw [Z5k (by rw [h.len]; decide),h.len]; decide),Z5k (by rw [h.len]; decide),h.len]
  obtain ⟨c,ec,c1,c2,c3,c4,c5⟩:=Zr8 hlen (by
    intro j; rw [hgd]
    have h1:=h.pos j
    by_cases hj:j=9
    · rw [if_pos hj]; omega
    · rw [if_neg hj]
      by_cases hj0:j=0
      · rw [if_pos hj0]; omega
      · rw [if_neg hj0]
        by_cases hj9:j<9
        · have:=h.low j hj9; omega
        · have:a.getD j 0=0:=by simp [List.getD_eq_getElem?_getD,List.getElem?_eq_none (show a.length<=j by have:=h.len; omega)]
          omega)
  refine ⟨c,?_,⟨c1,c2,c3,by omega⟩,?_⟩
  · rw [Z4x,Zdh]
    simp only [Zr,Z118,w1,w2,g9]
    rw [Z0pp p9 (by omega),Z1s (decide_eq_true h9),Z3 ec]
  · rw [c5,Zn8 _ _ _ _ (by decide),Zn8 _ _ _ _ (by decide),g9]
    have e0:(67108864:Int)^0=1:=by decide
    have e9:(67108864:Int)^9=27606985387162255149739023449108101809804435888681546220650096895197184:=by decide
    rw [e0,e9,ev]
    generalize a.getD 9 0=x at *
    generalize a.getD 0 0=y at *
    clear ec hgd hlen c1 c2 c3 c4 c5 w1 w2 g9
    omega
theorem Zzp {a:LI} (h:Nrm a) (hb:rV a 10<63657374260452690223495913149955322682597410751168609642183824931005961838254368963428352) (k:LI->Option (LI)) (n:Nat) : ∃ c,Z4x k (n+1+1+1) a=k c/\Nrm c /\ ¬ c.getD 9 0>2097151/\rV c 10%PP=rV a 10%PP:=by
  have stop : ∀ (n:Nat) (a:LI),¬ a.getD 9 0>2097151->Z4x k (n+1) a=k a:=by
    intro n a h
    rw [Z4x,Zdh]
    simp only [Zr]
    rw [Z1e (decide_eq_false h)]
  by_cases h1:a.getD 9 0>2097151
  · obtain ⟨c,ec,nc,vc⟩:=Zre h h1 k (n+1+1)
    have p0:0<=rV a 10:=by obtain ⟨v,v0,_,ev⟩:=h.val; have:=h.pos 9; omega
    by_cases h2:c.getD 9 0>2097151
    · obtain ⟨d,ed,nd,vd⟩:=Zre nc h2 k (n+1)
      obtain ⟨u,u0,u1,eu⟩:=nd.val
      have pd:=nd.pos 9
      have h3 : ¬ d.getD 9 0>2097151:=by
        intro h3
        obtain ⟨v,v0,v1,ev⟩:=nc.val
        clear ec ed stop
        generalize rV a 10=A at *
        generalize rV c 10=C at *
        generalize rV d 10=D at *
        generalize c.getD 9 0=c9 at *
        generalize d.getD 9 0=d9 at *
        clear nc nd h h1
        omega
      refine ⟨d,by rw [ec,ed,stop _ _ h3],nd,h3,?_⟩
      rw [vd,vc]
      clear ec ed stop
      generalize rV a 10=A at *
      unfold PP
      omega
    · refine ⟨c,by rw [ec,stop _ _ h2],nc,h2,?_⟩
      rw [vc]
      generalize rV a 10=A at *
      unfold PP
      omega
  · exact ⟨a,stop _ _ h1,h,h1,rfl⟩
theorem Znz {a:LI} (hl:a.length=10) (h0 : ∀ j,0<=a.getD j 0/\a.getD j 0<1152921504606846976):Z9o a=some (rn (rV a 10)):=by
  obtain ⟨c,ec,c1,c2,c3,c4,c5⟩:=Zr8 hl h0
  have nc:Nrm c:=⟨c1,c2,c3,by omega⟩
  obtain ⟨n,hn⟩ : ∃ n,big=n+1+1+1:=⟨18446744073709551613,Z21⟩
  have hb:rV c 10<63657374260452690223495913149955322682597410751168609642183824931005961838254368963428352:=by
    obtain ⟨v,v0,v1,ev⟩:=nc.val
    have:=nc.top
    rw [ev]
    omega
  rw [Z9o,Z3 ec,Z1v,hn]
  obtain ⟨d,ed,nd,h9,vd⟩:=Zzp nc hb (fun (a58:LI)=>opt (Zgm) fun y113 =>
 opt (Zja a58 y113) fun y116 =>
 jn (fun (a120:LI)=>some a120) fun k121=>br ((!y116)) (
 opt (Z8x a58 y113) fun y124 =>
 k121 y124
 ) (
 k121 a58
 )) n
  rw [ed]
  obtain ⟨v,ev,v0,v1⟩:=Zzo nd h9
  have hd : ∀ j,0<=d.getD j 0/\d.getD j 0<67108864:=by
    intro j
    refine ⟨nd.pos j,?_⟩
    by_cases hj:j<9
    · exact nd.low j hj
    · by_cases hj2:j=9
      · subst hj2; omega
      · have:d.getD j 0=0:=by simp [List.getD_eq_getElem?_getD,List.getElem?_eq_none (show d.length<=j by have:=nd.len; omega)]
        omega
  have ep:Zgm=some Zn9:=rfl
  rw [Z3 ep,Z3 (Z01e hd Zmi),Z1v,Zfy,ev]
  by_cases hv:v<PP
  · rw [Z1e (by simp [hv]),Zps nd.len hd,ev]
    unfold rn
    rw [<- c5,<- vd,ev,Int.emod_eq_of_lt v0 hv]
  · obtain ⟨r,er,r1,r2,r3⟩:=Zp3 nd.len hd Zmi (by rw [Zfy,ev]; omega)
    rw [Z1s (by simp [hv]),Z3 er,Zps r1 r2,r3,Zfy,ev]
    unfold rn
    rw [<- c5,<- vd,ev]
    congr 2
    unfold PP at *
    omega
end Go.Proofs.YtkjfpenagcdmcaaGreatDoor
namespace Go.Proofs.YtkjfpenagcdmcaaGreatDoor
open Go Go.Sx Go.RowKit
open List (replicate)
open Go.IntKind (wrap)
set_option linter.all false
set_option maxRecDepth 100000
set_option maxHeartbeats 1000000
theorem Zk1 {n:Int} (h0:0<=n) (h1:n<18446744073709551616):Z73 n=some (rn n):=by
  rw [Z73]
  simp only [Zr,Z07q,Z11a]
  rw [Z017 h0 h1,Z017 (by omega) (by omega)]
  have e:n%PP=n:=Int.emod_eq_of_lt h0 (by unfold PP; omega)
  unfold rn
  rw [e]
  unfold rdig
  congr 1
  simp only [List.cons.injEq,and_true,true_and]
  refine ⟨?_,?_,?_,?_,?_,?_,?_,?_⟩ <;> omega
theorem Z06z (k:LI->Option (LI)) (x0 x1 x2 x3 x4 x5 x6 x7 x8 x9 y0 y1 y2 y3 y4 y5 y6 y7 y8 y9:Int):Zfm [y0,y1,y2,y3,y4,y5,y6,y7,y8,y9] k big 0 [x0,x1,x2,x3,x4,x5,x6,x7,x8,x9]=k [wrap .u64 (x0+y0),wrap .u64 (x1+y1),wrap .u64 (x2+y2),wrap .u64 (x3+y3),wrap .u64 (x4+y4),wrap .u64 (x5+y5),wrap .u64 (x6+y6),wrap .u64 (x7+y7),wrap .u64 (x8+y8),wrap .u64 (x9+y9)]:=by kernel_rfl
theorem Zxz {P:Int->Prop} (h0:P 0) {x0 x1 x2 x3 x4 x5 x6 x7 x8 x9:Int} (h0_:P x0) (h1_:P x1) (h2_:P x2) (h3_:P x3) (h4_:P x4) (h5_:P x5) (h6_:P x6) (h7_:P x7) (h8_:P x8) (h9_:P x9) : ∀ j,P (([x0,x1,x2,x3,x4,x5,x6,x7,x8,x9]:LI).getD j 0):=by
  intro j
  match j with
  | 0=>exact h0_
  | 1=>exact h1_
  | 2=>exact h2_
  | 3=>exact h3_
  | 4=>exact h4_
  | 5=>exact h5_
  | 6=>exact h6_
  | 7=>exact h7_
  | 8=>exact h8_
  | 9=>exact h9_
  | j+10=>exact h0
theorem radd (a b:Int):Zh4 (rn a) (rn b)=some (rn (a+b)):=by
  have ha:=Zpw a
  have hb:=Zpw b
  have va:=Zuw a
  have vb:=Zuw b
  have ea:=Zo0 (Z096 a)
  have eb:=Zo0 (Z096 b)
  rw [Zux] at va vb
  have a0:=ha 0
  have b0:=hb 0
  have a1:=ha 1
  have b1:=hb 1
  have a2:=ha 2
  have b2:=hb 2
  have a3:=ha 3
  have b3:=hb 3
  have a4:=ha 4
  have b4:=hb 4
  have a5:=ha 5
  have b5:=hb 5
  have a6:=ha 6
  have b6:=hb 6
  have a7:=ha 7
  have b7:=hb 7
  have a8:=ha 8
  have b8:=hb 8
  have a9:=ha 9
  have b9:=hb 9
  rw [ea,eb,Zh4,Z1v,Z06z]
  clear ea eb ha hb
  generalize (rn a).getD 0 0=x0 at *
  generalize (rn b).getD 0 0=y0 at *
  generalize (rn a).getD 1 0=x1 at *
  generalize (rn b).getD 1 0=y1 at *
  generalize (rn a).getD 2 0=x2 at *
  generalize (rn b).getD 2 0=y2 at *
  generalize (rn a).getD 3 0=x3 at *
  generalize (rn b).getD 3 0=y3 at *
  generalize (rn a).getD 4 0=x4 at *
  generalize (rn b).getD 4 0=y4 at *
  generalize (rn a).getD 5 0=x5 at *
  generalize (rn b).getD 5 0=y5 at *
  generalize (rn a).getD 6 0=x6 at *
  generalize (rn b).getD 6 0=y6 at *
  generalize (rn a).getD 7 0=x7 at *
  generalize (rn b).getD 7 0=y7 at *
  generalize (rn a).getD 8 0=x8 at *
  generalize (rn b).getD 8 0=y8 at *
  generalize (rn a).getD 9 0=x9 at *
  generalize (rn b).getD 9 0=y9 at *
  rw [Ze (x:=x0+y0) (by omega) (by omega),Ze (x:=x1+y1) (by omega) (by omega),Ze (x:=x2+y2) (by omega) (by omega),Ze (x:=x3+y3) (by omega) (by omega),Ze (x:=x4+y4) (by omega) (by omega),Ze (x:=x5+y5) (by omega) (by omega),Ze (x:=x6+y6) (by omega) (by omega),Ze (x:=x7+y7) (by omega) (by omega),Ze (x:=x8+y8) (by omega) (by omega),Ze (x:=x9+y9) (by omega) (by omega)]
  rw [Z3 (Znz rfl (Zxz (P:=fun z=>0<=z/\z<1152921504606846976) (by omega) (by omega) (by omega) (by omega) (by omega) (by omega) (by omega) (by omega) (by omega) (by omega) (by omega)))]
  congr 1
  apply Zjf
  rw [Zux]
  simp only [List.getD_cons_zero,List.getD_cons_succ]
  have e:(x0+y0)+(x1+y1)*67108864+(x2+y2)*4503599627370496+(x3+y3)*302231454903657293676544+(x4+y4)*20282409603651670423947251286016+(x5+y5)*1361129467683753853853498429727072845824+(x6+y6)*91343852333181432387730302044767688728495783936+(x7+y7)*6129982163463555433433388108601236734474956488734408704+(x8+y8)*411376139330301510538742295639337626245683966408394965837152256+(x9+y9)*27606985387162255149739023449108101809804435888681546220650096895197184=a%PP+b%PP:=by omega
  rw [e,<- Int.add_emod]
theorem rneg (a:Int):Zrk (rn a)=some (rn (-a)):=by
  have h:=Zoj a
  obtain ⟨r,er,r1,r2,r3⟩:=Zp3 (a:=Zn9) (b:=rn a) rfl Zmi (Zpw a) (by rw [Zfy,Zuw]; omega)
  have ep:Zgm=some Zn9:=rfl
  rw [Zrk,Z3 ep,Z3 er,Z3 (Znz r1 (fun j=>by have:=r2 j; omega))]
  congr 1
  apply Zjf
  rw [r3,Zfy,Zuw]
  unfold PP
  omega
theorem rsub (a b:Int):Zn1 (rn a) (rn b)=some (rn (a-b)):=by
  rw [Zn1,Z3 (rneg b),Z3 (radd a (-b))]
  congr 2
theorem Z008 {p q:LI} (hp : ∀ i,0<=p.getD i 0/\p.getD i 0<67108864) (hq : ∀ i,0<=q.getD i 0/\q.getD i 0<67108864) {i:Nat} (hi:i<10) (m:Nat) : ∀ (n j:Nat) (a:LI),j+m=10->a.length=20->(∀ t,0<=a.getD t 0/\a.getD t 0<=((i:Int)+1)*4503599493152769)->(∀ t,i+j<=t->a.getD t 0<=(i:Int)*4503599493152769) ->
    ∃ c,(∀ k,Zbd p q (i:Int) k (n+1+m) (j:Int) a=k c)/\c.length=20/\(∀ t,0<=c.getD t 0/\c.getD t 0<=((i:Int)+1)*4503599493152769)/\rV c 20+p.getD i 0*rV q j*(67108864:Int)^i=rV a 20+p.getD i 0*rV q 10*(67108864:Int)^i:=by
  induction m with
  | zero =>
    intro n j a hj hl h0 h1
    refine ⟨a,fun k=>?_,hl,h0,by rw [show j=10 by omega]⟩
    rw [Nat.add_zero,Zbd,Zi3,Z1e (decide_eq_false (by omega))]
  | succ m ih =>
    intro n j a hj hl h0 h1
    have e1:=Z2u (i:=j) (by omega)
    have e2:wrap .i64 ((i:Int)+(j:Int))=((i+j:Nat):Int):=by rw [Zk (by omega) (by omega)]; omega
    have x1:=hp i
    have x2:=hq j
    have x3:=h0 (i+j)
    have x4:=h1 (i+j) (Nat.le_refl _)
    have xp:0<=p.getD i 0*q.getD j 0:=Int.mul_nonneg x1.1 x2.1
    have xq:p.getD i 0*q.getD j 0<=67108863*67108863:=Int.mul_le_mul (by omega) (by omega) x2.1 (by omega)
    have w1:wrap .u64 (p.getD i 0*q.getD j 0)=p.getD i 0*q.getD j 0:=Ze xp (by omega)
    have w2:wrap .u64 (a.getD (i+j) 0+p.getD i 0*q.getD j 0)=a.getD (i+j) 0+p.getD i 0*q.getD j 0:=Ze (by omega) (by omega)
    obtain ⟨c,ec,c1,c2,c3⟩:=ih n (j+1) (Z2g a (i+j) (a.getD (i+j) 0+p.getD i 0*q.getD j 0)) (by omega) (by rw [Z5k (by omega),hl])
      (by intro t; rw [Z1a]; split
          · omega
          · exact h0 t)
      (by intro t ht; rw [Z1a,if_neg (by omega)]; exact h1 t (by omega))
    refine ⟨c,fun k=>?_,c1,c2,?_⟩
    · rw [<- Nat.add_assoc,Zbd,Zi3,Z1s (decide_eq_true (by omega))]
      simp only [Zr,e1,e2,Int.toNat_natCast,w1,w2]
      rw [Z0b (Z19 (by omega) (by omega)),Z0b (Z19 (by omega) (by omega)),Z0b (Z19 (by omega) (by omega)),Z0b (Z19 (by omega) (by omega))]
      exact ec k
    · rw [Zn8 _ _ _ _ (by omega),Zai q j,Int.pow_add] at c3
      generalize (67108864:Int)^i=w at *
      generalize (67108864:Int)^j=u at *
      generalize p.getD i 0=x at *
      generalize q.getD j 0=y at *
      generalize a.getD (i+j) 0=z at *
      generalize rV a 20=va at *
      generalize rV c 20=vc at *
      generalize rV q j=vj at *
      generalize rV q 10=vq at *
      clear ih ec w1 w2 e1 e2 h0 h1 c1 c2 hp hq xp xq
      grind -lia -linarith (splits:=0)
theorem Z009 {p q:LI} (hp : ∀ i,0<=p.getD i 0/\p.getD i 0<67108864) (hq : ∀ i,0<=q.getD i 0/\q.getD i 0<67108864) (k:LI->Option (LI)) (m:Nat) : ∀ (n i:Nat) (a:LI),i+m=10->a.length=20->(∀ t,0<=a.getD t 0/\a.getD t 0<=(i:Int)*4503599493152769)->rV a 20=rV p i*rV q 10 ->
    ∃ c,Z9p p q k (n+1+m) (i:Int) a=k c/\c.length=20/\(∀ t,0<=c.getD t 0/\c.getD t 0<=45035994931527690)/\rV c 20=rV p 10*rV q 10:=by
  induction m with
  | zero =>
    intro n i a hi hl h0 hv
    have e:i=10:=by omega
    subst e
    refine ⟨a,?_,hl,fun t=>by have:=h0 t; omega,hv⟩
    rw [Nat.add_zero,Z9p,Zi2,Z1e (by decide)]
  | succ m ih =>
    intro n i a hi hl h0 hv
    have e1:=Z2u (i:=i) (by omega)
    obtain ⟨n',hn⟩ : ∃ n,big=n+1+10:=⟨18446744073709551605,Z21⟩
    obtain ⟨c,ec,c1,c2,c3⟩:=Z008 hp hq (i:=i) (by omega) 10 n' 0 a (by omega) hl (fun t=>by have:=h0 t; omega) (fun t _=>(h0 t).2)
    obtain ⟨d,ed,d1,d2,d3⟩:=ih n (i+1) c (by omega) c1 (fun t=>by have:=c2 t; omega) (by
      have e0:rV q 0=0:=rfl
      rw [e0,hv] at c3
      rw [Zai p i]
      generalize (67108864:Int)^i=w at *
      generalize p.getD i 0=x at *
      generalize rV c 20=vc at *
      generalize rV q 10=vq at *
      generalize rV p i=vp at *
      clear ih ec e1 h0 c1 c2 hp hq hv
      grind -lia -linarith (splits:=0))
    refine ⟨d,?_,d1,d2,d3⟩
    rw [<- Nat.add_assoc,Z9p,Zi2,Z1s (decide_eq_true (by omega)),Z1v,hn]
    refine (ec _).trans ?_
    simp only [Zr,e1]
    exact ed
theorem Zwi (k:LI->Option (LI)) (m:Nat) : ∀ (n i:Nat) (a:LI),i+m=19->a.length=20->(∀ j,0<=a.getD j 0)->(∀ j,j<i->a.getD j 0<67108864)->(∀ j,i<j->a.getD j 0<1152921504606846976)->a.getD i 0<1152921504606846976+34359738368 ->
    ∃ c,Z8j k (n+1+m) (i:Int) a=k c/\c.length=20/\(∀ j,0<=c.getD j 0)/\(∀ j,j<19->c.getD j 0<67108864)/\c.getD 19 0<1152921504606846976+34359738368/\rV c 20=rV a 20:=by
  induction m with
  | zero =>
    intro n i a hi hl h0 h1 h2 h3
    have e:i=19:=by omega
    subst e
    refine ⟨a,?_,hl,h0,h1,h3,rfl⟩
    rw [Nat.add_zero,Z8j,Zi4,Z1e (by decide)]
  | succ m ih =>
    intro n i a hi hl h0 h1 h2 h3
    have e1:=Z2u (i:=i) (by omega)
    have a0:=h0 i
    have b0:=h0 (i+1)
    have b2:=h2 (i+1) (by omega)
    have hs:wrap .u64 (a.getD (i+1) 0+a.getD i 0 / 67108864)=a.getD (i+1) 0+a.getD i 0 / 67108864:=Ze (by omega) (by omega)
    have hg:(Z2g a (i+1) (a.getD (i+1) 0+a.getD i 0 / 67108864)).getD i 0=a.getD i 0:=by rw [Z1a,if_neg (by omega)]
    have hgd : ∀ j,(Z2g (Z2g a (i+1) (a.getD (i+1) 0+a.getD i 0 / 67108864)) i (a.getD i 0%67108864)).getD j 0=if j=i then a.getD i 0%67108864 else if j=i+1 then a.getD (i+1) 0+a.getD i 0 / 67108864 else a.getD j 0:=by
      intro j; rw [Z1a,Z1a]
    have hlen:(Z2g (Z2g a (i+1) (a.getD (i+1) 0+a.getD i 0 / 67108864)) i (a.getD i 0%67108864)).length=20:=by rw [Z5k (by rw [Z5k (by omega)]; omega),Z5k (by omega),hl]
    obtain ⟨c,ec,c1,c2,c3,c4,c5⟩:=ih n (i+1) _ (by omega) hlen
      (by intro j; rw [hgd]; have:=h0 j; split <;> (try split) <;> omega)
      (by intro j hj; rw [hgd]; split
          · omega
          · rw [if_neg (by omega)]; exact h1 j (by omega))
      (by intro j hj; rw [hgd,if_neg (by omega),if_neg (by omega)]; exact h2 j (by omega))
      (by rw [hgd,if_neg (by omega),if_pos rfl]; omega)
    refine ⟨c,?_,c1,c2,c3,c4,?_⟩
    · rw [<- Nat.add_assoc,Z8j,Zi4,Z1s (decide_eq_true (by omega))]
      simp only [Zr,e1,Int.toNat_natCast,Z07q,hs,hg]
      rw [Z017 a0 (by omega),Z0b (Z19 (by omega) (by omega)),Z0b (Z19 (by omega) (by omega)),Z0b (Z19 (by omega) (by omega)),Z0b (Z19 (by omega) (by omega)),Z0b (Z19 (by omega) (by omega))]
      exact ec
    · rw [c5,Zn8 _ _ _ _ (by omega),Zn8 _ _ _ _ (by omega),hg,Int.pow_succ]
      have hd:=Int.mul_ediv_add_emod (a.getD i 0) 67108864
      generalize a.getD i 0 / 67108864=d at *
      generalize a.getD i 0%67108864=r at *
      generalize a.getD i 0=x at *
      generalize a.getD (i+1) 0=y at *
      generalize (67108864:Int)^i=w at *
      generalize rV a 20=v at *
      clear ih ec hgd hs hg c1 c2 c3 c4 c5 hlen
      grind -lia -linarith (splits:=0)
theorem Z078 (k:LI->Option (LI)) (d:LI):Zbe d k big 0 (replicate 10 0)=k [wrap .u64 (d.getD 0 0+wrap .u64 (608*d.getD 10 0)),wrap .u64 (d.getD 1 0+wrap .u64 (608*d.getD 11 0)),wrap .u64 (d.getD 2 0+wrap .u64 (608*d.getD 12 0)),wrap .u64 (d.getD 3 0+wrap .u64 (608*d.getD 13 0)),wrap .u64 (d.getD 4 0+wrap .u64 (608*d.getD 14 0)),wrap .u64 (d.getD 5 0+wrap .u64 (608*d.getD 15 0)),wrap .u64 (d.getD 6 0+wrap .u64 (608*d.getD 16 0)),wrap .u64 (d.getD 7 0+wrap .u64 (608*d.getD 17 0)),wrap .u64 (d.getD 8 0+wrap .u64 (608*d.getD 18 0)),wrap .u64 (d.getD 9 0+wrap .u64 (608*d.getD 19 0))]:=by kernel_rfl
theorem Z03c (l:LI):rV l 20=l.getD 0 0+l.getD 1 0*67108864+l.getD 2 0*4503599627370496+l.getD 3 0*302231454903657293676544+l.getD 4 0*20282409603651670423947251286016+l.getD 5 0*1361129467683753853853498429727072845824+l.getD 6 0*91343852333181432387730302044767688728495783936+l.getD 7 0*6129982163463555433433388108601236734474956488734408704+l.getD 8 0*411376139330301510538742295639337626245683966408394965837152256+l.getD 9 0*27606985387162255149739023449108101809804435888681546220650096895197184+l.getD 10 0*1852673427797059126777135760139006525652319754650249024631321344126610074238976+l.getD 11 0*124330809102446660538845562036705210025114037699336929360115994223289874253133343883264+l.getD 12 0*8343699359066055009355553539724812947666814540455674882605631280555545803830627148527195652096+l.getD 13 0*559936185544451052639360570142111069530411374308662383724997275240947967795040236345219373317901778944+l.getD 14 0*37576681324381331646231689548629392438010920782533117931316655544515344401833735095419183974156299248510959616+l.getD 15 0*2521728396569246669585858566409191283525103313309788586748690777871726193375821479130513040312634601011624191379636224+l.getD 16 0*169230328010303641331690318856389386196071598838855992136870091590247882556495704531248437872567112920983350278405979725889536+l.getD 17 0*11356855067118857664833184498250070849275646260739344691898284362197488876771842551971735167402555711886914400097909030211478150447104+l.getD 18 0*762145642166990290864647761179972242614403843424065222377723867096038022172794340849684107193235344521442121855812163792833978437326241529856+l.getD 19 0*51146728248377216718956089012931236753385031969422887335676427626502090568823039920051095192592252455482604439493126109519019633529459266458258243584:=by
  simp only [rV]
  have e0:(67108864:Int)^0=1:=by decide
  have e1:(67108864:Int)^1=67108864:=by decide
  have e2:(67108864:Int)^2=4503599627370496:=by decide
  have e3:(67108864:Int)^3=302231454903657293676544:=by decide
  have e4:(67108864:Int)^4=20282409603651670423947251286016:=by decide
  have e5:(67108864:Int)^5=1361129467683753853853498429727072845824:=by decide
  have e6:(67108864:Int)^6=91343852333181432387730302044767688728495783936:=by decide
  have e7:(67108864:Int)^7=6129982163463555433433388108601236734474956488734408704:=by decide
  have e8:(67108864:Int)^8=411376139330301510538742295639337626245683966408394965837152256:=by decide
  have e9:(67108864:Int)^9=27606985387162255149739023449108101809804435888681546220650096895197184:=by decide
  have e10:(67108864:Int)^10=1852673427797059126777135760139006525652319754650249024631321344126610074238976:=by decide
  have e11:(67108864:Int)^11=124330809102446660538845562036705210025114037699336929360115994223289874253133343883264:=by decide
  have e12:(67108864:Int)^12=8343699359066055009355553539724812947666814540455674882605631280555545803830627148527195652096:=by decide
  have e13:(67108864:Int)^13=559936185544451052639360570142111069530411374308662383724997275240947967795040236345219373317901778944:=by decide
  have e14:(67108864:Int)^14=37576681324381331646231689548629392438010920782533117931316655544515344401833735095419183974156299248510959616:=by decide
  have e15:(67108864:Int)^15=2521728396569246669585858566409191283525103313309788586748690777871726193375821479130513040312634601011624191379636224:=by decide
  have e16:(67108864:Int)^16=169230328010303641331690318856389386196071598838855992136870091590247882556495704531248437872567112920983350278405979725889536:=by decide
  have e17:(67108864:Int)^17=11356855067118857664833184498250070849275646260739344691898284362197488876771842551971735167402555711886914400097909030211478150447104:=by decide
  have e18:(67108864:Int)^18=762145642166990290864647761179972242614403843424065222377723867096038022172794340849684107193235344521442121855812163792833978437326241529856:=by decide
  have e19:(67108864:Int)^19=51146728248377216718956089012931236753385031969422887335676427626502090568823039920051095192592252455482604439493126109519019633529459266458258243584:=by decide
  rw [e0,e1,e2,e3,e4,e5,e6,e7,e8,e9,e10,e11,e12,e13,e14,e15,e16,e17,e18,e19]
  omega
theorem Z079 {p q:LI} (hp : ∀ i,0<=p.getD i 0/\p.getD i 0<67108864) (hq : ∀ i,0<=q.getD i 0/\q.getD i 0<67108864) (k:LI->Option (LI)) :
    ∃ c,Z9p p q k big 0 (replicate 20 0)=k c/\c.length=20/\(∀ t,0<=c.getD t 0/\c.getD t 0<=45035994931527690)/\rV c 20=rV p 10*rV q 10:=by
  obtain ⟨n,hn⟩ : ∃ n,big=n+1+10:=⟨18446744073709551605,Z21⟩
  have hz : ∀ t,(replicate 20 (0:Int)).getD t 0=0:=by
    intro t
    simp only [List.getD]
    cases hi:(replicate 20 (0:Int))[t]? with
    | none=>rfl
    | some v=>simpa using (List.mem_replicate.1 (List.mem_of_getElem? hi)).2
  rw [hn]
  exact Z009 hp hq k 10 n 0 (replicate 20 0) (by omega) (by simp) (fun t=>by rw [hz]; omega) (by
      have:rV (replicate 20 0) 20=0:=by decide
      rw [this]
      show 0=0*_
      omega)
theorem Zzs (k:LI->Option (LI)) {c:LI} (hl:c.length=20) (h0 : ∀ t,0<=c.getD t 0/\c.getD t 0<=45035994931527690) :
    ∃ d,Z8j k big 0 c=k d/\d.length=20/\(∀ j,0<=d.getD j 0)/\(∀ j,j<19->d.getD j 0<67108864)/\d.getD 19 0<1152921504606846976+34359738368/\rV d 20=rV c 20:=by
  obtain ⟨n,hn⟩ : ∃ n,big=n+1+19:=⟨18446744073709551596,Z21⟩
  rw [hn]
  exact Zwi k 19 n 0 c (by omega) hl (fun j=>(h0 j).1) (fun j h=>by omega) (fun j _=>by have:=h0 j; omega) (by have:=h0 0; omega)
theorem Zki (a b:Int):Z24 (rn a) (rn b)=some (rn (a*b)):=by
  rw [Z24,Z1v]
  obtain ⟨c,ec,c1,c2,c3⟩:=Z079 (Zpw a) (Zpw b) (fun (a343:LI)=>jn (fun (a741:LI)=>jn (fun (a848:LI)=>opt (Z9o a848) fun y893 =>
 some y893) fun k849=>Zbe a741 k849 big 0 (replicate 10 0)) fun k742=>Z8j k742 big 0 a343)
  rw [ec]
  simp only [Z1v]
  obtain ⟨d,ed,d1,d2,d3,d4,d5⟩:=Zzs (fun (a741:LI)=>Zbe a741 (fun (a848:LI)=>opt (Z9o a848) fun y893=>some y893) big 0 (replicate 10 0)) c1 c2
  rw [ed,Z078]
  rw [Zuw,Zuw] at c3
  rw [c3,Z03c] at d5
  have ra:=Zoj a
  have rb:=Zoj b
  have hprod:a%PP*(b%PP)<3351951982485649274893506249551461531869841455148098344430890360930441007518386744200468574541725856922507964546621512713438470702986642486608412251521024:=by
    have:a%PP*(b%PP)<=PP*PP:=Int.mul_le_mul (by omega) (by omega) rb.1 (by decide)
    unfold PP at *
    omega
  have p0:=d2 0
  have p1:=d2 1
  have p2:=d2 2
  have p3:=d2 3
  have p4:=d2 4
  have p5:=d2 5
  have p6:=d2 6
  have p7:=d2 7
  have p8:=d2 8
  have p9:=d2 9
  have p10:=d2 10
  have p11:=d2 11
  have p12:=d2 12
  have p13:=d2 13
  have p14:=d2 14
  have p15:=d2 15
  have p16:=d2 16
  have p17:=d2 17
  have p18:=d2 18
  have p19:=d2 19
  have q0:=d3 0 (by decide)
  have q1:=d3 1 (by decide)
  have q2:=d3 2 (by decide)
  have q3:=d3 3 (by decide)
  have q4:=d3 4 (by decide)
  have q5:=d3 5 (by decide)
  have q6:=d3 6 (by decide)
  have q7:=d3 7 (by decide)
  have q8:=d3 8 (by decide)
  have q9:=d3 9 (by decide)
  have q10:=d3 10 (by decide)
  have q11:=d3 11 (by decide)
  have q12:=d3 12 (by decide)
  have q13:=d3 13 (by decide)
  have q14:=d3 14 (by decide)
  have q15:=d3 15 (by decide)
  have q16:=d3 16 (by decide)
  have q17:=d3 17 (by decide)
  have q18:=d3 18 (by decide)
  clear ec ed c1 c2 d1 d2 d3
  generalize d.getD 0 0=x0 at *
  generalize d.getD 1 0=x1 at *
  generalize d.getD 2 0=x2 at *
  generalize d.getD 3 0=x3 at *
  generalize d.getD 4 0=x4 at *
  generalize d.getD 5 0=x5 at *
  generalize d.getD 6 0=x6 at *
  generalize d.getD 7 0=x7 at *
  generalize d.getD 8 0=x8 at *
  generalize d.getD 9 0=x9 at *
  generalize d.getD 10 0=x10 at *
  generalize d.getD 11 0=x11 at *
  generalize d.getD 12 0=x12 at *
  generalize d.getD 13 0=x13 at *
  generalize d.getD 14 0=x14 at *
  generalize d.getD 15 0=x15 at *
  generalize d.getD 16 0=x16 at *
  generalize d.getD 17 0=x17 at *
  generalize d.getD 18 0=x18 at *
  generalize d.getD 19 0=x19 at *
  have q19:x19<65536:=by
    generalize a%PP*(b%PP)=w at *
    omega
  rw [Ze (x:=608*x10) (by omega) (by omega),Ze (x:=608*x11) (by omega) (by omega),Ze (x:=608*x12) (by omega) (by omega),Ze (x:=608*x13) (by omega) (by omega),Ze (x:=608*x14) (by omega) (by omega),Ze (x:=608*x15) (by omega) (by omega),Ze (x:=608*x16) (by omega) (by omega),Ze (x:=608*x17) (by omega) (by omega),Ze (x:=608*x18) (by omega) (by omega),Ze (x:=608*x19) (by omega) (by omega)]
  rw [Ze (x:=x0+608*x10) (by omega) (by omega),Ze (x:=x1+608*x11) (by omega) (by omega),Ze (x:=x2+608*x12) (by omega) (by omega),Ze (x:=x3+608*x13) (by omega) (by omega),Ze (x:=x4+608*x14) (by omega) (by omega),Ze (x:=x5+608*x15) (by omega) (by omega),Ze (x:=x6+608*x16) (by omega) (by omega),Ze (x:=x7+608*x17) (by omega) (by omega),Ze (x:=x8+608*x18) (by omega) (by omega),Ze (x:=x9+608*x19) (by omega) (by omega)]
  rw [Z3 (Znz rfl (Zxz (P:=fun z=>0<=z/\z<1152921504606846976) (by omega) (by omega) (by omega) (by omega) (by omega) (by omega) (by omega) (by omega) (by omega) (by omega) (by omega)))]
  congr 1
  apply Zjf
  rw [Zux]
  simp only [List.getD_cons_zero,List.getD_cons_succ]
  have e:(x0+608*x10)+(x1+608*x11)*67108864+(x2+608*x12)*4503599627370496+(x3+608*x13)*302231454903657293676544+(x4+608*x14)*20282409603651670423947251286016+(x5+608*x15)*1361129467683753853853498429727072845824+(x6+608*x16)*91343852333181432387730302044767688728495783936+(x7+608*x17)*6129982163463555433433388108601236734474956488734408704+(x8+608*x18)*411376139330301510538742295639337626245683966408394965837152256+(x9+608*x19)*27606985387162255149739023449108101809804435888681546220650096895197184=a%PP*(b%PP)-PP*(32*(x10+x11*67108864+x12*4503599627370496+x13*302231454903657293676544+x14*20282409603651670423947251286016+x15*1361129467683753853853498429727072845824+x16*91343852333181432387730302044767688728495783936+x17*6129982163463555433433388108601236734474956488734408704+x18*411376139330301510538742295639337626245683966408394965837152256+x19*27606985387162255149739023449108101809804435888681546220650096895197184)):=by
    generalize a%PP*(b%PP)=w at *
    unfold PP
    omega
  rw [e,Int.sub_mul_emod_self_left,<- Int.mul_emod]
theorem Z00c {x:Int} {e:LI} (he:Byt e) {kk:LI->Option (LI)} {k':Int->LI->Option (LI)} {i:Nat} (hi:i<256) (a:Int) :
    Zfo (rn x) e kk k' (i:Int) (rn a)=k' ((i:Int)-1) (rn (if ebit e i then a*a%PP*x%PP else a*a%PP)):=by
  rw [Zfo,Z1s (by simp),Z1v,Z3 (Zki a a)]
  simp only [Zr]
  have hd:wrap .i64 (Int.tdiv (i:Int) 8)=((i / 8:Nat):Int):=by
    rw [Int.tdiv_eq_ediv_of_nonneg (by omega),Zk (by omega) (by omega)]; omega
  have hm:Int.tmod (i:Int) 8=((i%8:Nat):Int):=by
    rw [Int.tmod_eq_emod_of_nonneg (by omega)]; omega
  rw [hd,hm,Z0b (Z19 (by omega) (by omega)),Z0b (by simp; omega)]
  have hb:=he (i / 8)
  simp only [Int.toNat_natCast]
  rw [Z9z .u8 (n:=i%8) (by show i%8<=8; omega)]
  have hp:(0:Int)<((2^(i%8):Nat):Int):=by have:=Nat.pow_pos (n:=i%8) (show 0<2 by decide); omega
  have hq0:=Int.ediv_nonneg hb.1 (Int.le_of_lt hp)
  have hq1:e.getD (i / 8) 0 / ((2^(i%8):Nat):Int)<256:=Int.lt_of_le_of_lt (Int.ediv_le_self _ hb.1) hb.2
  rw [Z016 hq0 hq1]
  have hw:wrap .i64 ((i:Int)-1)=(i:Int)-1:=Zk (by omega) (by omega)
  by_cases hbit:ebit e i=true
  · have hb':(e.getD (i / 8) 0 / ((2^(i%8):Nat):Int)%2==1)=true:=hbit
    rw [Z1s hb',if_pos hbit,Z3 (Zki (a*a) x),hw]
    have:rn (a*a*x)=rn (a*a%PP*x%PP):=by
      rw [Z03n]; apply Zjf; rw [Int.mul_emod (a*a%PP),Zw6,<- Int.mul_emod]
    rw [this]
  · rw [Bool.not_eq_true] at hbit
    have hb':(e.getD (i / 8) 0 / ((2^(i%8):Nat):Int)%2==1)=false:=hbit
    rw [Z1e hb',if_neg (by rw [hbit]; decide),hw,Z03n]
theorem Zv8 {x:Int} {e:LI} (he:Byt e) : ∀ (k n:Nat),k<=256->Z9q (rn x) e some (n+1+k) ((k:Int)-1) (rn (pw x e (256-k)))=some (rn (pw x e 256))
  | 0,n,_=>by
    show Z9q (rn x) e some (n+1) _ _=_
    rw [Z9q,Zfo,Z1e (by decide)]
  | k+1,n,hk=>by
    have ih:=Zv8 (x:=x) he k n (by omega)
    rw [<- Nat.add_assoc,Z9q]
    have hi:((k+1:Nat):Int)-1=(k:Int):=by omega
    rw [hi,Z00c he (by omega)]
    have e1:256-k=(256-(k+1))+1:=by omega
    have e2:255-(256-(k+1))=k:=by omega
    rw [e1,pw,e2] at ih
    exact ih
theorem rpow (x:Int) {e:LI} (he:Byt e):Zph (rn x) e=some (rn (pw x e 256)):=by
  rw [Zph,Z3 (Zk1 (by decide) (by decide)),Z1v]
  obtain ⟨n,hn⟩ : ∃ n,big=n+1+256:=⟨18446744073709551359,Z21⟩
  have:=Zv8 (x:=x) he 256 n (Nat.le_refl _)
  rw [<- hn] at this
  exact this
theorem Z00d:Zec 235 127=some Zvr:=by kernel_rfl
def esq8:LI:=[254,255,255,255,255,255,255,255,255,255,255,255,255,255,255,255,255,255,255,255,255,255,255,255,255,255,255,255,255,255,255,15]
theorem Z03t:Zec 254 15=some esq8:=by kernel_rfl
theorem Z03s:Zec 251 31=some ert:=by kernel_rfl
theorem rinv (a:Int):Zbc (rn a)=some (rn (pw a Zvr 256)):=by
  rw [Zbc,Z3 Z00d,Z3 (rpow a Zxu)]
theorem rn0:([0,0,0,0,0,0,0,0,0,0]:LI)=rn 0:=by decide
theorem Z0p4 (n:Int):tk (rn n) 0 10=rn n:=rfl
theorem Z020 (a b:Int):ieq 10 (rn a) (rn b)=decide (a%PP=b%PP):=by
  unfold ieq
  rw [Z0p4,Z0p4]
  by_cases h:a%PP=b%PP
  · rw [decide_eq_true h,decide_eq_true (Zjf h)]
  · rw [decide_eq_false h,decide_eq_false (fun e=>h (Z0op e))]
theorem Z03l (a:Int):Zfn (rn a)=some (decide (a%PP=0)):=by
  rw [Zfn,Zr,rn0,Z020]; rfl
theorem Z095 (a:Int):Zj9 (rn a)=some (a%PP%2==1):=by
  have h:=Zpw a 0
  have e:(rn a).getD 0 0=a%PP%67108864:=rfl
  rw [Zj9,Zr,Zr,Zvw h.1 (by omega),e]
  congr 2
  omega
theorem Z0oo (a:Int):Zm7 (rn a)=some (rn (fabs a)):=by
  rw [Zm7,Z3 (Z095 a)]
  unfold fabs
  by_cases h:(a%PP%2==1)=true
  · rw [h,Z1s rfl,Z3 (rneg a)]; rfl
  · rw [Bool.not_eq_true] at h
    rw [h,Z1e rfl]; rfl
def rq (u v:Int):Int:=u*pw v Zvr 256
def rr (u v:Int):Int:=pw (rq u v) esq8 256
def rsqr (u v:Int):Int×Bool :=
  if v%PP=0 then (0,decide (u%PP=0))
  else if rr u v*rr u v%PP=rq u v%PP then (fabs (rr u v),true)
  else if (rr u v*Z00l)*(rr u v*Z00l)%PP=rq u v%PP then (fabs (rr u v*Z00l),true)
  else (0,false)
theorem Z07h (u v:Int):Zbf (rn u) (rn v)=some (rn (rsqr u v).1,(rsqr u v).2):=by
  rw [Zbf,Z3 (Z03l v)]
  unfold rsqr
  by_cases h:v%PP=0
  · rw [if_pos h,Z1s (by simpa using h),Zr,Z3 (Z03l u),rn0]
  · rw [if_neg h,Z1e (by simpa using h),Z3 (rinv v),Z3 (Zki _ _),Z3 Z03t]
    have e0:u*pw v Zvr 256=rq u v:=rfl
    rw [e0,Z3 (rpow _ (byt_of (by decide)))]
    have e1:pw (rq u v) esq8 256=rr u v:=rfl
    rw [e1,Z3 (Zki _ _),Z020]
    by_cases h1:rr u v*rr u v%PP=rq u v%PP
    · rw [if_pos h1,Z1s (by simpa using h1),Z3 (Z0oo _)]
    · rw [if_neg h1,Z1e (by simpa using h1),Z3 (Zk1 (by decide) (by decide)),Z3 Z03s,Z3 (rpow _ (byt_of (by decide)))]
      have e2:pw 2 ert 256=Z00l:=rfl
      rw [e2,Z3 (Zki _ _),Z3 (Zki _ _),Z020]
      by_cases h2:(rr u v*Z00l)*(rr u v*Z00l)%PP=rq u v%PP
      · rw [if_pos h2,Z1s (by simpa using h2),Z3 (Z0oo _)]
      · rw [if_neg h2,Z1e (by simpa using h2),Zr,rn0]
end Go.Proofs.YtkjfpenagcdmcaaGreatDoor
namespace Go.Proofs.YtkjfpenagcdmcaaGreatDoor
open Go Go.Sx Go.RowKit
open List (replicate)
set_option linter.all false
set_option maxRecDepth 100000
theorem Ze9 {l:LI} {i:Nat} (h:l.length<=i):l.getD i 0=0:=by simp [List.getD_eq_getElem?_getD,List.getElem?_eq_none h]
theorem Z02u {l:LI} {n:Nat} (h:l.length<=n):pV l n=pV l l.length:=Z02w (fun t ht=>Ze9 ht) n h
theorem Z04d {p:LI} (hp:W64 p) (hb:p.length<1000000) : ∃ a h,Z9g p=some (a,h)/\W64 a/\W64 h/\h.length=p.length-3 /\
  V4 a=pV p p.length%7237005577332262213973186563042994240829374041602535252466099000494570602496/\pV h h.length=pV p p.length / 7237005577332262213973186563042994240829374041602535252466099000494570602496:=by
 obtain ⟨n,hn⟩ : ∃ n',big=n'+1+(p.length-3):=⟨18446744073709551615-(p.length-3),by have:big=18446744073709551616:=Z21; omega⟩
 have hw0g : ∀ i,(wr (replicate 4 0) 0 (p.take 4)).getD i 0=if i<4 then p.getD i 0 else 0:=by
  intro i
  rw [Ztb]
  have hr:(replicate 4 (0:Int)).getD i 0=0:=by
   match i with
   | 0=>rfl
   | 1=>rfl
   | 2=>rfl
   | 3=>rfl
   | i+4=>rfl
  by_cases h:0<=i/\i<0+(p.take 4).length
  ·rw [if_pos h]
   simp only [List.length_take] at h
   have h4':i<4:=by omega
   rw [if_pos h4']
   simp [List.getD_eq_getElem?_getD,List.getElem?_take,h4']
  ·rw [if_neg h,hr]
   simp only [List.length_take] at h
   split
   ·rw [Ze9 (by omega)]
   ·rfl
 have hw0:W64 (wr (replicate 4 0) 0 (p.take 4)):=by
  intro i
  rw [hw0g]
  split
  ·exact hp i
  ·decide
 have hmask:Z4 .and .u64 ((wr (replicate 4 0) 0 (p.take 4)).getD 3 0) 1152921504606846975=p.getD 3 0%1152921504606846976:=by
  rw [hw0g,if_pos (by decide)]
  exact Zlq 60 (by decide) (by decide) (hp 3).1 (hp 3).2
 have hlow:V4 (Z2g (wr (replicate 4 0) 0 (p.take 4)) 3 (Z4 .and .u64 ((wr (replicate 4 0) 0 (p.take 4)).getD 3 0) 1152921504606846975))=p.getD 0 0+p.getD 1 0*18446744073709551616+p.getD 2 0*340282366920938463463374607431768211456+(p.getD 3 0%1152921504606846976)*6277101735386680763835789423207666416102355444464034512896:=by
  unfold V4
  rw [hmask]
  simp only [Z1a,hw0g]
  simp
 have h3:pV p 3=p.getD 0 0+p.getD 1 0*18446744073709551616+p.getD 2 0*340282366920938463463374607431768211456:=by
  simp only [pV]
  omega
 have hr0:=hp 0
 have hr1:=hp 1
 have hr2:=hp 2
 have hr3:=hp 3
 by_cases hlen:3<=p.length
 ·obtain ⟨l',e,h1,h2,h4⟩:=Zx5 hp hb (k:=fun l128=>some (Z2g (wr (replicate 4 0) 0 (p.take 4)) 3 (Z4 .and .u64 ((wr (replicate 4 0) 0 (p.take 4)).getD 3 0) 1152921504606846975),l128)) (p.length-3) n 0 [] (by omega) rfl (Zc5 0)
  refine ⟨(Z2g (wr (replicate 4 0) 0 (p.take 4)) 3 (Z4 .and .u64 ((wr (replicate 4 0) 0 (p.take 4)).getD 3 0) 1152921504606846975)),l',?_,Zej hw0 (Z018 _ _),h2,by omega,?_⟩
  ·simp only [Z9g,Zr,Z1v]
   rw [hn]
   exact e
  ·rw [hlow]
   rw [Nat.add_zero,h3] at h4
   have e0:pV ([]:LI) ([]:LI).length=0:=rfl
   have e3:(18446744073709551616:Int)^3=6277101735386680763835789423207666416102355444464034512896:=by decide
   rw [e0,e3] at h4
   generalize pV p p.length=X at *
   generalize pV l' l'.length=Y at *
   omega
 ·have e3:p.getD 3 0=0:=Ze9 (by omega)
  have hx:pV p p.length=pV p 3:=(Z02u (by omega)).symm
  refine ⟨(Z2g (wr (replicate 4 0) 0 (p.take 4)) 3 (Z4 .and .u64 ((wr (replicate 4 0) 0 (p.take 4)).getD 3 0) 1152921504606846975)),[],?_,Zej hw0 (Z018 _ _),Zc5 0,by simp; omega,?_⟩
  ·simp only [Z9g,Zr,Z1v]
   rw [hn,show p.length-3=0 by omega,Nat.add_zero,Z2f,Z51,Z1e (by simp; omega)]
  ·rw [hlow,hx,h3,e3]
   have e0:pV ([]:LI) ([]:LI).length=0:=rfl
   rw [e0]
   omega
theorem Zce {l:LI} (n:Nat) {i:Nat} {a:List (LI)} (hi:i<4) (hl:W64 l) (hb:l.length<1000) (ha : ∀ i,W64 (a.getD i (replicate 4 0)))
  (hs:V4 (a.getD (i%2) (replicate 4 0))+pV l l.length%7237005577332262213973186563042994240829374041602535252466099000494570602496<B4) :
  ∃ l' a',(∀ k:List (LI)->Option (LI),Z2k k (n+1) l (i:Int) a=Z2k k n l' ((i+1:Nat):Int) a')/\W64 l'/\l'.length=l.length-3+2/\(∀ i,W64 (a'.getD i (replicate 4 0))) /\
   pV l' l'.length=pV l l.length / 7237005577332262213973186563042994240829374041602535252466099000494570602496*27742317777372353535851937790883648493 /\
   V4 (a'.getD (i%2) (replicate 4 0))=V4 (a.getD (i%2) (replicate 4 0))+pV l l.length%7237005577332262213973186563042994240829374041602535252466099000494570602496 /\
   (∀ j,j≠i%2->a'.getD j (replicate 4 0)=a.getD j (replicate 4 0)):=by
 obtain ⟨lo,h,e,w1,w2,w3,v1,v2⟩:=Z04d hl (by omega)
 obtain ⟨s,c,e2,ws,hc,vs⟩:=Zsq (ha (i%2)) w1
 obtain ⟨t,e3,l3,wt,vt⟩:=Zvn w2 Z05c (by simp; omega)
 have em:Int.tmod (i:Int) 2=((i%2:Nat):Int):=by rw [Int.tmod_eq_emod_of_nonneg (by omega)]; omega
 have e1:IntKind.wrap .i64 ((i:Int)+1)=((i+1:Nat):Int):=by rw [Zk (by omega) (by omega)]; rfl
 refine ⟨t,Zh7 (replicate 4 0) a (i%2) s,?_,wt,by rw [l3,w3]; rfl,?_,?_,?_,?_⟩
 ·intro k
  rw [Z2k,Z6p,Z1s (by simp; omega),Z3 e]
  simp only [Zr,em,e1,Int.toNat_natCast]
  rw [Z0b (Z19 (by omega) (by omega)),Z3 e2,Z0b (Z19 (by omega) (by omega)),Zgr,Z3 rfl,Z3 e3]
 ·intro j
  rw [Z3w]
  split
  ·exact ws
  ·exact ha j
 ·rw [vt,v2]; rfl
 ·rw [Z3w,if_pos rfl]
  have hr:=Zjt ws
  have hr2:=Zjt (ha (i%2))
  rw [<- v1] at hs ⊢
  have hc0:c=0:=by
   unfold B4 at *
   rcases hc with h | h
   ·exact h
   ·exfalso; subst h; omega
  rw [vs,hc0]; omega
 ·intro j hj
  rw [Z3w,if_neg hj]
theorem Zxc:V4 (replicate 4 0)=0:=by decide
theorem Zmf {p:LI} (hp:W64 p) (h8:p.length<=8) : ∃ r,Z6l p=some r/\W64 r/\V4 r=pV p p.length%VL:=by
 obtain ⟨n,hn⟩ : ∃ n,big=n+1+1+1+1+1:=⟨18446744073709551611,Z21⟩
 rw [Z6l,Z1v,hn]
 have ha0 : ∀ i,(replicate 2 (replicate 4 0):List (LI)).getD i (replicate 4 0)=replicate 4 0:=by
  intro i
  match i with
  | 0=>rfl
  | 1=>rfl
  | i+2=>rfl
 have hX:=Z08t hp 8
 rw [Z02u h8] at hX
 have e8:(18446744073709551616:Int)^8=13407807929942597099574024998205846127479365820592393377723561443721764030073546976801874298166903427690031858186486050853753882811946569946433649006084096:=by decide
 rw [e8] at hX
 obtain ⟨l1,a1,f1,w1,n1,h1,x1,s1,o1⟩:=Zce (n+1+1+1+1) (i:=0) (l:=p) (a:=replicate 2 (replicate 4 0)) (by decide) hp (by omega) (by intro i; rw [ha0]; exact Zc5 4) (by
  rw [ha0,Zxc]
  generalize pV p p.length=X at *
  unfold B4
  omega)
 rw [ha0,Zxc] at s1
 have t1:=o1 1 (by decide)
 rw [ha0] at t1
 obtain ⟨l2,a2,f2,w2,n2,h2,x2,s2,o2⟩:=Zce (n+1+1+1) (i:=1) (by decide) w1 (by omega) h1 (by
  rw [t1,Zxc]
  generalize pV l1 l1.length=X at *
  unfold B4
  omega)
 rw [t1,Zxc] at s2
 have t2:=o2 0 (by decide)
 obtain ⟨l3,a3,f3,w3,n3,h3,x3,s3,o3⟩:=Zce (n+1+1) (i:=2) (by decide) w2 (by omega) h2 (by
  have e:a2.getD (2%2) (replicate 4 0)=a1.getD 0 (replicate 4 0):=t2
  have s1':V4 (a1.getD 0 (replicate 4 0))=_:=s1
  rw [e,s1']
  generalize pV p p.length=X at *
  generalize pV l2 l2.length=Y at *
  unfold B4
  omega)
 have t3:=o3 1 (by decide)
 obtain ⟨l4,a4,f4,w4,n4,h4,x4,s4,o4⟩:=Zce (n+1) (i:=3) (by decide) w3 (by omega) h3 (by
  have e:a3.getD (3%2) (replicate 4 0)=a2.getD 1 (replicate 4 0):=t3
  have s2':V4 (a2.getD 1 (replicate 4 0))=_:=s2
  rw [e,s2']
  generalize pV l1 l1.length=X at *
  generalize pV l3 l3.length=Y at *
  unfold B4
  omega)
 have t4:=o4 0 (by decide)
 have v0:V4 (a4.getD 0 (replicate 4 0))=pV p p.length%7237005577332262213973186563042994240829374041602535252466099000494570602496+pV l2 l2.length%7237005577332262213973186563042994240829374041602535252466099000494570602496:=by
  have s3':V4 (a3.getD 0 (replicate 4 0))=V4 (a2.getD 0 (replicate 4 0))+_:=s3
  have s1':V4 (a1.getD 0 (replicate 4 0))=_:=s1
  rw [t4,s3',t2,s1']
  omega
 have v1:V4 (a4.getD 1 (replicate 4 0))=pV l1 l1.length%7237005577332262213973186563042994240829374041602535252466099000494570602496+pV l3 l3.length%7237005577332262213973186563042994240829374041602535252466099000494570602496:=by
  have s4':V4 (a4.getD 1 (replicate 4 0))=V4 (a3.getD 1 (replicate 4 0))+_:=s4
  have s2':V4 (a2.getD 1 (replicate 4 0))=_:=s2
  rw [s4',t3,s2']
  omega
 obtain ⟨g1,c1,q1,z1,hc1,y1⟩:=Zsq Zok Zok
 obtain ⟨g2,c2,q2,z2,hc2,y2⟩:=Zsq (h4 0) z1
 obtain ⟨g3,c3,q3,z3,hc3,y3⟩:=Zy5 z2 (h4 1)
 obtain ⟨r,q4,z4,y4⟩:=Zxh z3
 refine ⟨r,?_,z4,?_⟩
 ·refine (f1 _).trans ((f2 _).trans ((f3 _).trans ((f4 _).trans ?_)))
  rw [Z2k,Z6p,Z1e (by decide),Z3 q1,Zr,Z3 q2,Zr,Z3 q3,Z3 q4]
 ·have r1:=Zjt z1
  have r2:=Zjt z2
  have r3:=Zjt z3
  rw [y4]
  rw [Zxb] at y1
  rw [v0] at y2
  rw [v1] at y3
  generalize V4 g1=G1 at *
  generalize V4 g2=G2 at *
  generalize V4 g3=G3 at *
  generalize pV p p.length=X at *
  generalize pV l1 l1.length=X1 at *
  generalize pV l2 l2.length=X2 at *
  generalize pV l3 l3.length=X3 at *
  clear f1 f2 f3 f4 q1 q2 q3 q4 e8
  unfold VL at *
  unfold B4 at *
  have k1:c1=0:=by rcases hc1 with h | h <;> omega
  subst k1
  have b1:X1<51397454971639728862728594851412511588645886491167898648663828096174877345658614143171087801555262538602929264263168:=by omega
  have b2:X2<197026866089141791222560432227205258386878298291626920115022677913390379788544:=by omega
  have b3:X3<776784897766425899003854258144742157804:=by omega
  have k2:c2=0:=by rcases hc2 with h | h <;> omega
  subst k2
  have k3:c3=0:=by rcases hc3 with h | h <;> omega
  subst k3
  have e:G3=X-7237005577332262213973186563042994240857116359379907606001950938285454250989*(X / 7237005577332262213973186563042994240829374041602535252466099000494570602496-X1 / 7237005577332262213973186563042994240829374041602535252466099000494570602496+X2 / 7237005577332262213973186563042994240829374041602535252466099000494570602496-2):=by omega
  rw [e,Int.sub_mul_emod_self_left]
end Go.Proofs.YtkjfpenagcdmcaaGreatDoor
namespace Go.Proofs.YtkjfpenagcdmcaaGreatDoor
open Go Go.Sx Go.RowKit
open Go.IntKind (wrap)
set_option linter.all false
set_option maxRecDepth 100000
set_option maxHeartbeats 1000000
theorem Zvh (k:Nat) {b:Int} (hk:k<=56) (h:0<=b/\b<256):Zn .u64 (wrap .u64 b) (k:Int)=b*((2^k:Nat):Int):=by
 have hp:(0:Int)<((2^k:Nat):Int):=by have:=Nat.pow_pos (n:=k) (show 0<2 by decide); omega
 have hle:((2^k:Nat):Int)<=72057594037927936:=by
  have:=Nat.pow_le_pow_right (show 0<2 by decide) hk
  have e:(2^56:Nat)=72057594037927936:=by decide
  omega
 have h1:b*((2^k:Nat):Int)<=255*72057594037927936:=Int.mul_le_mul (by omega) hle (by omega) (by omega)
 have h0:0<=b*((2^k:Nat):Int):=Int.mul_nonneg h.1 (by omega)
 rw [Ze h.1 (by omega),Zis .u64 (n:=k) (by show k<=64; omega),Ze h0 (by omega)]
theorem Zc2 {b0 b1 b2 b3 b4 b5 b6 b7:Int} (h0:0<=b0/\b0<256) (h1:0<=b1/\b1<256) (h2:0<=b2/\b2<256) (h3:0<=b3/\b3<256) (h4:0<=b4/\b4<256) (h5:0<=b5/\b5<256) (h6:0<=b6/\b6<256) (h7:0<=b7/\b7<256):Z4 .or .u64 (Z4 .or .u64 (Z4 .or .u64 (Z4 .or .u64 (Z4 .or .u64 (Z4 .or .u64 (Z4 .or .u64 (Z4 .or .u64 (0) (Zn .u64 (wrap .u64 (b0)) 0)) (Zn .u64 (wrap .u64 (b1)) 8)) (Zn .u64 (wrap .u64 (b2)) 16)) (Zn .u64 (wrap .u64 (b3)) 24)) (Zn .u64 (wrap .u64 (b4)) 32)) (Zn .u64 (wrap .u64 (b5)) 40)) (Zn .u64 (wrap .u64 (b6)) 48)) (Zn .u64 (wrap .u64 (b7)) 56)=b0+b1*256+b2*65536+b3*16777216+b4*4294967296+b5*1099511627776+b6*281474976710656+b7*72057594037927936:=by
 have s0:=Zvh 0 (by decide) h0
 have s1:=Zvh 8 (by decide) h1
 have s2:=Zvh 16 (by decide) h2
 have s3:=Zvh 24 (by decide) h3
 have s4:=Zvh 32 (by decide) h4
 have s5:=Zvh 40 (by decide) h5
 have s6:=Zvh 48 (by decide) h6
 have s7:=Zvh 56 (by decide) h7
 have t0:Zn .u64 (wrap .u64 b0) 0=b0*1:=s0
 have t1:Zn .u64 (wrap .u64 b1) 8=b1*256:=s1
 have t2:Zn .u64 (wrap .u64 b2) 16=b2*65536:=s2
 have t3:Zn .u64 (wrap .u64 b3) 24=b3*16777216:=s3
 have t4:Zn .u64 (wrap .u64 b4) 32=b4*4294967296:=s4
 have t5:Zn .u64 (wrap .u64 b5) 40=b5*1099511627776:=s5
 have t6:Zn .u64 (wrap .u64 b6) 48=b6*281474976710656:=s6
 have t7:Zn .u64 (wrap .u64 b7) 56=b7*72057594037927936:=s7
 rw [t0,t1,t2,t3,t4,t5,t6,t7]
 rw [Z14 0 (x:=b0*1) (y:=0) (a:=b0) rfl (by omega) (by omega) (by decide) (by omega)]
 rw [Z14 8 (x:=b1*256) (a:=b1) rfl (by omega) (by omega) (by show _<(256:Int); omega) (by omega)]
 rw [Z14 16 (x:=b2*65536) (a:=b2) rfl (by omega) (by omega) (by show _<(65536:Int); omega) (by omega)]
 rw [Z14 24 (x:=b3*16777216) (a:=b3) rfl (by omega) (by omega) (by show _<(16777216:Int); omega) (by omega)]
 rw [Z14 32 (x:=b4*4294967296) (a:=b4) rfl (by omega) (by omega) (by show _<(4294967296:Int); omega) (by omega)]
 rw [Z14 40 (x:=b5*1099511627776) (a:=b5) rfl (by omega) (by omega) (by show _<(1099511627776:Int); omega) (by omega)]
 rw [Z14 48 (x:=b6*281474976710656) (a:=b6) rfl (by omega) (by omega) (by show _<(281474976710656:Int); omega) (by omega)]
 rw [Z14 56 (x:=b7*72057594037927936) (a:=b7) rfl (by omega) (by omega) (by show _<(72057594037927936:Int); omega) (by omega)]
 omega
theorem Z069 {p:LI} (h:Byt p) : ∃ r,Zdt p=some r/\W64 r/\r.length=4/\V4 r=Zci p:=by
 refine ⟨_,Zzq p,Zs0 ?_,rfl,?_⟩
 ·repeat' (first | exact Z02t _ _ | exact List.forall_mem_nil _ | refine List.forall_mem_cons.2 ⟨?_,?_⟩)
 ·unfold V4
  simp only [List.getD_cons_zero,List.getD_cons_succ]
  rw [Zc2 (h 0) (h 1) (h 2) (h 3) (h 4) (h 5) (h 6) (h 7)]
  rw [Zc2 (h 8) (h 9) (h 10) (h 11) (h 12) (h 13) (h 14) (h 15)]
  rw [Zc2 (h 16) (h 17) (h 18) (h 19) (h 20) (h 21) (h 22) (h 23)]
  rw [Zc2 (h 24) (h 25) (h 26) (h 27) (h 28) (h 29) (h 30) (h 31)]
  unfold Zci
  omega
theorem Z2a (x:Int):Zx .u64 x 8=x / 256:=by have:=Z9z .u64 (x:=x) (n:=8) (by decide); simpa using this
theorem Z09j {p:LI} (h:W64 p):V4 p%18446744073709551616=p.getD 0 0/\V4 p / 18446744073709551616%18446744073709551616=p.getD 1 0/\V4 p / 340282366920938463463374607431768211456%18446744073709551616=p.getD 2 0/\V4 p / 6277101735386680763835789423207666416102355444464034512896%18446744073709551616=p.getD 3 0:=by
 have h0:=h 0
 have h1:=h 1
 have h2:=h 2
 have h3:=h 3
 unfold V4
 refine ⟨by omega,by omega,by omega,by omega⟩
theorem sb_0 {n x:Int} (h:n%18446744073709551616=x):wrap .u8 (x)=n%256:=by
 simp only [Z2a,Z0u]
 omega
theorem sb_1 {n x:Int} (h:n%18446744073709551616=x):wrap .u8 (Zx .u64 (x) 8)=n / 256%256:=by
 simp only [Z2a,Z0u]
 omega
theorem sb_2 {n x:Int} (h:n%18446744073709551616=x):wrap .u8 (Zx .u64 (Zx .u64 (x) 8) 8)=n / 65536%256:=by
 simp only [Z2a,Z0u]
 omega
theorem sb_3 {n x:Int} (h:n%18446744073709551616=x):wrap .u8 (Zx .u64 (Zx .u64 (Zx .u64 (x) 8) 8) 8)=n / 16777216%256:=by
 simp only [Z2a,Z0u]
 omega
theorem sb_4 {n x:Int} (h:n%18446744073709551616=x):wrap .u8 (Zx .u64 (Zx .u64 (Zx .u64 (Zx .u64 (x) 8) 8) 8) 8)=n / 4294967296%256:=by
 simp only [Z2a,Z0u]
 omega
theorem sb_5 {n x:Int} (h:n%18446744073709551616=x):wrap .u8 (Zx .u64 (Zx .u64 (Zx .u64 (Zx .u64 (Zx .u64 (x) 8) 8) 8) 8) 8)=n / 1099511627776%256:=by
 simp only [Z2a,Z0u]
 omega
theorem sb_6 {n x:Int} (h:n%18446744073709551616=x):wrap .u8 (Zx .u64 (Zx .u64 (Zx .u64 (Zx .u64 (Zx .u64 (Zx .u64 (x) 8) 8) 8) 8) 8) 8)=n / 281474976710656%256:=by
 simp only [Z2a,Z0u]
 omega
theorem sb_7 {n x:Int} (h:n%18446744073709551616=x):wrap .u8 (Zx .u64 (Zx .u64 (Zx .u64 (Zx .u64 (Zx .u64 (Zx .u64 (Zx .u64 (x) 8) 8) 8) 8) 8) 8) 8)=n / 72057594037927936%256:=by
 simp only [Z2a,Z0u]
 omega
theorem sb_8 {n x:Int} (h:n / 18446744073709551616%18446744073709551616=x):wrap .u8 (x)=n / 18446744073709551616%256:=by
 simp only [Z2a,Z0u]
 omega
theorem sb_9 {n x:Int} (h:n / 18446744073709551616%18446744073709551616=x):wrap .u8 (Zx .u64 (x) 8)=n / 4722366482869645213696%256:=by
 simp only [Z2a,Z0u]
 omega
theorem Z10m {n x:Int} (h:n / 18446744073709551616%18446744073709551616=x):wrap .u8 (Zx .u64 (Zx .u64 (x) 8) 8)=n / 1208925819614629174706176%256:=by
 simp only [Z2a,Z0u]
 omega
theorem Z10n {n x:Int} (h:n / 18446744073709551616%18446744073709551616=x):wrap .u8 (Zx .u64 (Zx .u64 (Zx .u64 (x) 8) 8) 8)=n / 309485009821345068724781056%256:=by
 simp only [Z2a,Z0u]
 omega
theorem Z10o {n x:Int} (h:n / 18446744073709551616%18446744073709551616=x):wrap .u8 (Zx .u64 (Zx .u64 (Zx .u64 (Zx .u64 (x) 8) 8) 8) 8)=n / 79228162514264337593543950336%256:=by
 simp only [Z2a,Z0u]
 omega
theorem Z10p {n x:Int} (h:n / 18446744073709551616%18446744073709551616=x):wrap .u8 (Zx .u64 (Zx .u64 (Zx .u64 (Zx .u64 (Zx .u64 (x) 8) 8) 8) 8) 8)=n / 20282409603651670423947251286016%256:=by
 simp only [Z2a,Z0u]
 omega
theorem Z10q {n x:Int} (h:n / 18446744073709551616%18446744073709551616=x):wrap .u8 (Zx .u64 (Zx .u64 (Zx .u64 (Zx .u64 (Zx .u64 (Zx .u64 (x) 8) 8) 8) 8) 8) 8)=n / 5192296858534827628530496329220096%256:=by
 simp only [Z2a,Z0u]
 omega
theorem Z10r {n x:Int} (h:n / 18446744073709551616%18446744073709551616=x):wrap .u8 (Zx .u64 (Zx .u64 (Zx .u64 (Zx .u64 (Zx .u64 (Zx .u64 (Zx .u64 (x) 8) 8) 8) 8) 8) 8) 8)=n / 1329227995784915872903807060280344576%256:=by
 simp only [Z2a,Z0u]
 omega
theorem Z10s {n x:Int} (h:n / 340282366920938463463374607431768211456%18446744073709551616=x):wrap .u8 (x)=n / 340282366920938463463374607431768211456%256:=by
 simp only [Z2a,Z0u]
 omega
theorem Z10t {n x:Int} (h:n / 340282366920938463463374607431768211456%18446744073709551616=x):wrap .u8 (Zx .u64 (x) 8)=n / 87112285931760246646623899502532662132736%256:=by
 simp only [Z2a,Z0u]
 omega
theorem Z10u {n x:Int} (h:n / 340282366920938463463374607431768211456%18446744073709551616=x):wrap .u8 (Zx .u64 (Zx .u64 (x) 8) 8)=n / 22300745198530623141535718272648361505980416%256:=by
 simp only [Z2a,Z0u]
 omega
theorem Z10v {n x:Int} (h:n / 340282366920938463463374607431768211456%18446744073709551616=x):wrap .u8 (Zx .u64 (Zx .u64 (Zx .u64 (x) 8) 8) 8)=n / 5708990770823839524233143877797980545530986496%256:=by
 simp only [Z2a,Z0u]
 omega
theorem Z10w {n x:Int} (h:n / 340282366920938463463374607431768211456%18446744073709551616=x):wrap .u8 (Zx .u64 (Zx .u64 (Zx .u64 (Zx .u64 (x) 8) 8) 8) 8)=n / 1461501637330902918203684832716283019655932542976%256:=by
 simp only [Z2a,Z0u]
 omega
theorem Z10x {n x:Int} (h:n / 340282366920938463463374607431768211456%18446744073709551616=x):wrap .u8 (Zx .u64 (Zx .u64 (Zx .u64 (Zx .u64 (Zx .u64 (x) 8) 8) 8) 8) 8)=n / 374144419156711147060143317175368453031918731001856%256:=by
 simp only [Z2a,Z0u]
 omega
theorem Z10y {n x:Int} (h:n / 340282366920938463463374607431768211456%18446744073709551616=x):wrap .u8 (Zx .u64 (Zx .u64 (Zx .u64 (Zx .u64 (Zx .u64 (Zx .u64 (x) 8) 8) 8) 8) 8) 8)=n / 95780971304118053647396689196894323976171195136475136%256:=by
 simp only [Z2a,Z0u]
 omega
theorem Z10z {n x:Int} (h:n / 340282366920938463463374607431768211456%18446744073709551616=x):wrap .u8 (Zx .u64 (Zx .u64 (Zx .u64 (Zx .u64 (Zx .u64 (Zx .u64 (Zx .u64 (x) 8) 8) 8) 8) 8) 8) 8)=n / 24519928653854221733733552434404946937899825954937634816%256:=by
 simp only [Z2a,Z0u]
 omega
theorem Z110 {n x:Int} (h:n / 6277101735386680763835789423207666416102355444464034512896%18446744073709551616=x):wrap .u8 (x)=n / 6277101735386680763835789423207666416102355444464034512896%256:=by
 simp only [Z2a,Z0u]
 omega
theorem Z111 {n x:Int} (h:n / 6277101735386680763835789423207666416102355444464034512896%18446744073709551616=x):wrap .u8 (Zx .u64 (x) 8)=n / 1606938044258990275541962092341162602522202993782792835301376%256:=by
 simp only [Z2a,Z0u]
 omega
theorem Z112 {n x:Int} (h:n / 6277101735386680763835789423207666416102355444464034512896%18446744073709551616=x):wrap .u8 (Zx .u64 (Zx .u64 (x) 8) 8)=n / 411376139330301510538742295639337626245683966408394965837152256%256:=by
 simp only [Z2a,Z0u]
 omega
theorem Z113 {n x:Int} (h:n / 6277101735386680763835789423207666416102355444464034512896%18446744073709551616=x):wrap .u8 (Zx .u64 (Zx .u64 (Zx .u64 (x) 8) 8) 8)=n / 105312291668557186697918027683670432318895095400549111254310977536%256:=by
 simp only [Z2a,Z0u]
 omega
theorem Z114 {n x:Int} (h:n / 6277101735386680763835789423207666416102355444464034512896%18446744073709551616=x):wrap .u8 (Zx .u64 (Zx .u64 (Zx .u64 (Zx .u64 (x) 8) 8) 8) 8)=n / 26959946667150639794667015087019630673637144422540572481103610249216%256:=by
 simp only [Z2a,Z0u]
 omega
theorem Z115 {n x:Int} (h:n / 6277101735386680763835789423207666416102355444464034512896%18446744073709551616=x):wrap .u8 (Zx .u64 (Zx .u64 (Zx .u64 (Zx .u64 (Zx .u64 (x) 8) 8) 8) 8) 8)=n / 6901746346790563787434755862277025452451108972170386555162524223799296%256:=by
 simp only [Z2a,Z0u]
 omega
theorem Z116 {n x:Int} (h:n / 6277101735386680763835789423207666416102355444464034512896%18446744073709551616=x):wrap .u8 (Zx .u64 (Zx .u64 (Zx .u64 (Zx .u64 (Zx .u64 (Zx .u64 (x) 8) 8) 8) 8) 8) 8)=n / 1766847064778384329583297500742918515827483896875618958121606201292619776%256:=by
 simp only [Z2a,Z0u]
 omega
theorem Z117 {n x:Int} (h:n / 6277101735386680763835789423207666416102355444464034512896%18446744073709551616=x):wrap .u8 (Zx .u64 (Zx .u64 (Zx .u64 (Zx .u64 (Zx .u64 (Zx .u64 (Zx .u64 (x) 8) 8) 8) 8) 8) 8) 8)=n / 452312848583266388373324160190187140051835877600158453279131187530910662656%256:=by
 simp only [Z2a,Z0u]
 omega
theorem Zq9 {p:LI} (h:W64 p):Z7s p=some (byt (V4 p)):=by
 obtain ⟨e0,e1,e2,e3⟩:=Z09j h
 rw [Z04h]
 unfold byt
 rw [sb_0 e0,sb_1 e0,sb_2 e0,sb_3 e0,sb_4 e0,sb_5 e0,sb_6 e0,sb_7 e0,sb_8 e1,sb_9 e1,Z10m e1,Z10n e1,Z10o e1,Z10p e1,Z10q e1,Z10r e1,Z10s e2,Z10t e2,Z10u e2,Z10v e2,Z10w e2,Z10x e2,Z10y e2,Z10z e2,Z110 e3,Z111 e3,Z112 e3,Z113 e3,Z114 e3,Z115 e3,Z116 e3,Z117 e3]
theorem Zz1 {n:Int} (h0:0<=n) (h1:n<115792089237316195423570985008687907853269984665640564039457584007913129639936):Zci (byt n)=n:=by
 simp only [Zci,byt,List.getD_cons_zero,List.getD_cons_succ]
 omega
theorem Z0bv (r:LI):pV r 4=V4 r:=by
 simp only [pV,V4]
 have e1:(18446744073709551616:Int)^0=1:=by decide
 have e2:(18446744073709551616:Int)^1=18446744073709551616:=by decide
 have e3:(18446744073709551616:Int)^2=340282366920938463463374607431768211456:=by decide
 have e4:(18446744073709551616:Int)^3=6277101735386680763835789423207666416102355444464034512896:=by decide
 rw [e1,e2,e3,e4]
 omega
theorem Zqb {p:LI} (h:Byt p) : ∃ r,Z7w p=some r/\W64 r/\r.length=4/\pV r r.length=Zci p:=by
 obtain ⟨r,e,w,l,v⟩:=Z069 h
 refine ⟨r,?_,w,l,by rw [l,Z0bv,v]⟩
 rw [Z7w,Z3 e,Zbt l]
theorem Z02f {p:LI} (h:Byt p) : ∃ r,Zcq p=some r/\W64 r/\V4 r=Zci p%VL:=by
 obtain ⟨r,e,w,l,v⟩:=Zqb h
 obtain ⟨s,e2,w2,v2⟩:=Zmf w (by omega)
 exact ⟨s,by rw [Zcq,Z3 e,Z3 e2],w2,by rw [v2,v]⟩
theorem Zti (n:Int):0<=n%VL/\n%VL<VL:=⟨Int.emod_nonneg _ (by decide),Int.emod_lt_of_pos _ (by decide)⟩
theorem Z07j {p q:LI} (hp:Byt p) (hq:Byt q):Zg1 p q=some (byt (Zci p*Zci q%VL)):=by
 obtain ⟨a,e1,w1,l1,v1⟩:=Zqb hp
 obtain ⟨b,e2,w2,l2,v2⟩:=Zqb hq
 obtain ⟨c,e3,l3,w3,v3⟩:=Zvn w1 w2 (by omega)
 obtain ⟨d,e4,w4,v4⟩:=Zmf w3 (by omega)
 rw [Zg1,Z3 e1,Z3 e2,Z3 e3,Z3 e4,Z3 (Zq9 w4),v4,v3,v1,v2]
theorem Z07i {p q:LI} (hp:Byt p) (hq:Byt q):Zg0 p q=some (byt ((Zci p+Zci q)%VL)):=by
 obtain ⟨a,e1,w1,v1⟩:=Z02f hp
 obtain ⟨b,e2,w2,v2⟩:=Z02f hq
 obtain ⟨c,o,e3,w3,ho,v3⟩:=Zsq w1 w2
 obtain ⟨d,e4,w4,v4⟩:=Zxh w3
 have h1:=Zti (Zci p)
 have h2:=Zti (Zci q)
 have h3:=Zjt w3
 have e:V4 c=Zci p%VL+Zci q%VL:=by
  rw [v1,v2] at v3
  unfold VL B4 at *
  rcases ho with h | h <;> subst h <;> omega
 rw [Zg0,Z3 e1,Z3 e2,Z3 e3,Z3 e4,Z3 (Zq9 w4),v4,e,<- Int.add_emod]
theorem Zwz {p q r:LI} (hp:Byt p) (hq:Byt q) (hr:Byt r):Z87 p q r=some (byt ((Zci p*Zci q+Zci r)%VL)):=by
 have h:=Zti (Zci p*Zci q)
 rw [Z87,Z3 (Z07j hp hq),Z3 (Z07i (Zoo _) hr),Zz1 h.1 (by unfold VL at h ⊢; omega),Int.emod_add_emod]
def wval (x:LI):Int:=x.getD 0 0+x.getD 1 0*256+x.getD 2 0*65536+x.getD 3 0*16777216+x.getD 4 0*4294967296+x.getD 5 0*1099511627776+x.getD 6 0*281474976710656+x.getD 7 0*72057594037927936+x.getD 8 0*18446744073709551616+x.getD 9 0*4722366482869645213696+x.getD 10 0*1208925819614629174706176+x.getD 11 0*309485009821345068724781056+x.getD 12 0*79228162514264337593543950336+x.getD 13 0*20282409603651670423947251286016+x.getD 14 0*5192296858534827628530496329220096+x.getD 15 0*1329227995784915872903807060280344576+x.getD 16 0*340282366920938463463374607431768211456+x.getD 17 0*87112285931760246646623899502532662132736+x.getD 18 0*22300745198530623141535718272648361505980416+x.getD 19 0*5708990770823839524233143877797980545530986496+x.getD 20 0*1461501637330902918203684832716283019655932542976+x.getD 21 0*374144419156711147060143317175368453031918731001856+x.getD 22 0*95780971304118053647396689196894323976171195136475136+x.getD 23 0*24519928653854221733733552434404946937899825954937634816+x.getD 24 0*6277101735386680763835789423207666416102355444464034512896+x.getD 25 0*1606938044258990275541962092341162602522202993782792835301376+x.getD 26 0*411376139330301510538742295639337626245683966408394965837152256+x.getD 27 0*105312291668557186697918027683670432318895095400549111254310977536+x.getD 28 0*26959946667150639794667015087019630673637144422540572481103610249216+x.getD 29 0*6901746346790563787434755862277025452451108972170386555162524223799296+x.getD 30 0*1766847064778384329583297500742918515827483896875618958121606201292619776+x.getD 31 0*452312848583266388373324160190187140051835877600158453279131187530910662656+x.getD 32 0*115792089237316195423570985008687907853269984665640564039457584007913129639936+x.getD 33 0*29642774844752946028434172162224104410437116074403984394101141506025761187823616+x.getD 34 0*7588550360256754183279148073529370729071901715047420004889892225542594864082845696+x.getD 35 0*1942668892225729070919461906823518906642406839052139521251812409738904285205208498176+x.getD 36 0*497323236409786642155382248146820840100456150797347717440463976893159497012533375533056+x.getD 37 0*127314748520905380391777855525586135065716774604121015664758778084648831235208544136462336+x.getD 38 0*32592575621351777380295131014550050576823494298654980010178247189670100796213387298934358016+x.getD 39 0*8343699359066055009355553539724812947666814540455674882605631280555545803830627148527195652096+x.getD 40 0*2135987035920910082395021706169552114602704522356652769947041607822219725780640550022962086936576+x.getD 41 0*546812681195752981093125556779405341338292357723303109106442651602488249799843980805878294255763456+x.getD 42 0*139984046386112763159840142535527767382602843577165595931249318810236991948760059086304843329475444736+x.getD 43 0*35835915874844867368919076489095108449946327955754392558399825615420669938882575126094039892345713852416+x.getD 44 0*9173994463960286046443283581208347763186259956673124494950355357547691504353939232280074212440502746218496+x.getD 45 0*2348542582773833227889480596789337027375682548908319870707290971532209025114608443463698998384768703031934976+x.getD 46 0*601226901190101306339707032778070279008174732520529886901066488712245510429339761526706943586500787976175353856+x.getD 47 0*153914086704665934422965000391185991426092731525255651046673021110334850669910978950836977558144201721900890587136+x.getD 48 0*39402006196394479212279040100143613805079739270465446667948293404245721771497210611414266254884915640806627990306816+x.getD 49 0*10086913586276986678343434265636765134100413253239154346994763111486904773503285916522052161250538404046496765518544896+x.getD 50 0*2582249878086908589655919172003011874329705792829223512830659356540647622016841194629645353280137831435903171972747493376+x.getD 51 0*661055968790248598951915308032771039828404682964281219284648795274405791236311345825189210439715284847591212025023358304256+x.getD 52 0*169230328010303641331690318856389386196071598838855992136870091590247882556495704531248437872567112920983350278405979725889536+x.getD 53 0*43322963970637732180912721627235682866194329302747133987038743447103457934462900359999600095377180907771737671271930809827721216+x.getD 54 0*11090678776483259438313656736572334813745748301503266300681918322458485231222502492159897624416558312389564843845614287315896631296+x.getD 55 0*2839213766779714416208296124562517712318911565184836172974571090549372219192960637992933791850638927971728600024477257552869537611776+x.getD 56 0*726838724295606890549323807888004534353641360687318060281490199180639288113397923326191050713763565560762521606266177933534601628614656+x.getD 57 0*186070713419675363980626894819329160794532188335953423432061490990243657757029868371504908982723472783555205531204141550984858016925351936+x.getD 58 0*47634102635436893179040485073748265163400240214004076398607741693502376385799646303105256699577209032590132615988260237052123652332890095616+x.getD 59 0*12194330274671844653834364178879555881830461494785043558043581873536608354764709453594945715091765512343073949692994620685343654997219864477696+x.getD 60 0*3121748550315992231381597229793166305748598142664971150859156959625371738819765620120306103063491971159826931121406622895447975679288285306290176+x.getD 61 0*799167628880894011233688890827050574271641124522232614619944181664095165137859998750798362384253944616915694367080095461234681773897801038410285056+x.getD 62 0*204586912993508866875824356051724947013540127877691549342705710506008362275292159680204380770369009821930417757972504438076078534117837065833032974336+x.getD 63 0*52374249726338269920211035149241586435466272736689036631732661889538140742474792878132321477214466514414186946040961136147476104734166288853256441430016
theorem Zza {p:LI} (h:Byt p):Z6k p=some (byt (wval p%VL)):=by
 rw [Z6k,Z1v,Zz9]
 have hw:W64 ([Z4 .or .u64 (Z4 .or .u64 (Z4 .or .u64 (Z4 .or .u64 (Z4 .or .u64 (Z4 .or .u64 (Z4 .or .u64 (Z4 .or .u64 (0) (Zn .u64 (wrap .u64 (p.getD 0 0)) 0)) (Zn .u64 (wrap .u64 (p.getD 1 0)) 8)) (Zn .u64 (wrap .u64 (p.getD 2 0)) 16)) (Zn .u64 (wrap .u64 (p.getD 3 0)) 24)) (Zn .u64 (wrap .u64 (p.getD 4 0)) 32)) (Zn .u64 (wrap .u64 (p.getD 5 0)) 40)) (Zn .u64 (wrap .u64 (p.getD 6 0)) 48)) (Zn .u64 (wrap .u64 (p.getD 7 0)) 56),Z4 .or .u64 (Z4 .or .u64 (Z4 .or .u64 (Z4 .or .u64 (Z4 .or .u64 (Z4 .or .u64 (Z4 .or .u64 (Z4 .or .u64 (0) (Zn .u64 (wrap .u64 (p.getD 8 0)) 0)) (Zn .u64 (wrap .u64 (p.getD 9 0)) 8)) (Zn .u64 (wrap .u64 (p.getD 10 0)) 16)) (Zn .u64 (wrap .u64 (p.getD 11 0)) 24)) (Zn .u64 (wrap .u64 (p.getD 12 0)) 32)) (Zn .u64 (wrap .u64 (p.getD 13 0)) 40)) (Zn .u64 (wrap .u64 (p.getD 14 0)) 48)) (Zn .u64 (wrap .u64 (p.getD 15 0)) 56),Z4 .or .u64 (Z4 .or .u64 (Z4 .or .u64 (Z4 .or .u64 (Z4 .or .u64 (Z4 .or .u64 (Z4 .or .u64 (Z4 .or .u64 (0) (Zn .u64 (wrap .u64 (p.getD 16 0)) 0)) (Zn .u64 (wrap .u64 (p.getD 17 0)) 8)) (Zn .u64 (wrap .u64 (p.getD 18 0)) 16)) (Zn .u64 (wrap .u64 (p.getD 19 0)) 24)) (Zn .u64 (wrap .u64 (p.getD 20 0)) 32)) (Zn .u64 (wrap .u64 (p.getD 21 0)) 40)) (Zn .u64 (wrap .u64 (p.getD 22 0)) 48)) (Zn .u64 (wrap .u64 (p.getD 23 0)) 56),Z4 .or .u64 (Z4 .or .u64 (Z4 .or .u64 (Z4 .or .u64 (Z4 .or .u64 (Z4 .or .u64 (Z4 .or .u64 (Z4 .or .u64 (0) (Zn .u64 (wrap .u64 (p.getD 24 0)) 0)) (Zn .u64 (wrap .u64 (p.getD 25 0)) 8)) (Zn .u64 (wrap .u64 (p.getD 26 0)) 16)) (Zn .u64 (wrap .u64 (p.getD 27 0)) 24)) (Zn .u64 (wrap .u64 (p.getD 28 0)) 32)) (Zn .u64 (wrap .u64 (p.getD 29 0)) 40)) (Zn .u64 (wrap .u64 (p.getD 30 0)) 48)) (Zn .u64 (wrap .u64 (p.getD 31 0)) 56),Z4 .or .u64 (Z4 .or .u64 (Z4 .or .u64 (Z4 .or .u64 (Z4 .or .u64 (Z4 .or .u64 (Z4 .or .u64 (Z4 .or .u64 (0) (Zn .u64 (wrap .u64 (p.getD 32 0)) 0)) (Zn .u64 (wrap .u64 (p.getD 33 0)) 8)) (Zn .u64 (wrap .u64 (p.getD 34 0)) 16)) (Zn .u64 (wrap .u64 (p.getD 35 0)) 24)) (Zn .u64 (wrap .u64 (p.getD 36 0)) 32)) (Zn .u64 (wrap .u64 (p.getD 37 0)) 40)) (Zn .u64 (wrap .u64 (p.getD 38 0)) 48)) (Zn .u64 (wrap .u64 (p.getD 39 0)) 56),Z4 .or .u64 (Z4 .or .u64 (Z4 .or .u64 (Z4 .or .u64 (Z4 .or .u64 (Z4 .or .u64 (Z4 .or .u64 (Z4 .or .u64 (0) (Zn .u64 (wrap .u64 (p.getD 40 0)) 0)) (Zn .u64 (wrap .u64 (p.getD 41 0)) 8)) (Zn .u64 (wrap .u64 (p.getD 42 0)) 16)) (Zn .u64 (wrap .u64 (p.getD 43 0)) 24)) (Zn .u64 (wrap .u64 (p.getD 44 0)) 32)) (Zn .u64 (wrap .u64 (p.getD 45 0)) 40)) (Zn .u64 (wrap .u64 (p.getD 46 0)) 48)) (Zn .u64 (wrap .u64 (p.getD 47 0)) 56),Z4 .or .u64 (Z4 .or .u64 (Z4 .or .u64 (Z4 .or .u64 (Z4 .or .u64 (Z4 .or .u64 (Z4 .or .u64 (Z4 .or .u64 (0) (Zn .u64 (wrap .u64 (p.getD 48 0)) 0)) (Zn .u64 (wrap .u64 (p.getD 49 0)) 8)) (Zn .u64 (wrap .u64 (p.getD 50 0)) 16)) (Zn .u64 (wrap .u64 (p.getD 51 0)) 24)) (Zn .u64 (wrap .u64 (p.getD 52 0)) 32)) (Zn .u64 (wrap .u64 (p.getD 53 0)) 40)) (Zn .u64 (wrap .u64 (p.getD 54 0)) 48)) (Zn .u64 (wrap .u64 (p.getD 55 0)) 56),Z4 .or .u64 (Z4 .or .u64 (Z4 .or .u64 (Z4 .or .u64 (Z4 .or .u64 (Z4 .or .u64 (Z4 .or .u64 (Z4 .or .u64 (0) (Zn .u64 (wrap .u64 (p.getD 56 0)) 0)) (Zn .u64 (wrap .u64 (p.getD 57 0)) 8)) (Zn .u64 (wrap .u64 (p.getD 58 0)) 16)) (Zn .u64 (wrap .u64 (p.getD 59 0)) 24)) (Zn .u64 (wrap .u64 (p.getD 60 0)) 32)) (Zn .u64 (wrap .u64 (p.getD 61 0)) 40)) (Zn .u64 (wrap .u64 (p.getD 62 0)) 48)) (Zn .u64 (wrap .u64 (p.getD 63 0)) 56)]):=Zs0 (by
  repeat' (first | exact Z02t _ _ | exact List.forall_mem_nil _ | refine List.forall_mem_cons.2 ⟨?_,?_⟩))
 have hv:pV ([Z4 .or .u64 (Z4 .or .u64 (Z4 .or .u64 (Z4 .or .u64 (Z4 .or .u64 (Z4 .or .u64 (Z4 .or .u64 (Z4 .or .u64 (0) (Zn .u64 (wrap .u64 (p.getD 0 0)) 0)) (Zn .u64 (wrap .u64 (p.getD 1 0)) 8)) (Zn .u64 (wrap .u64 (p.getD 2 0)) 16)) (Zn .u64 (wrap .u64 (p.getD 3 0)) 24)) (Zn .u64 (wrap .u64 (p.getD 4 0)) 32)) (Zn .u64 (wrap .u64 (p.getD 5 0)) 40)) (Zn .u64 (wrap .u64 (p.getD 6 0)) 48)) (Zn .u64 (wrap .u64 (p.getD 7 0)) 56),Z4 .or .u64 (Z4 .or .u64 (Z4 .or .u64 (Z4 .or .u64 (Z4 .or .u64 (Z4 .or .u64 (Z4 .or .u64 (Z4 .or .u64 (0) (Zn .u64 (wrap .u64 (p.getD 8 0)) 0)) (Zn .u64 (wrap .u64 (p.getD 9 0)) 8)) (Zn .u64 (wrap .u64 (p.getD 10 0)) 16)) (Zn .u64 (wrap .u64 (p.getD 11 0)) 24)) (Zn .u64 (wrap .u64 (p.getD 12 0)) 32)) (Zn .u64 (wrap .u64 (p.getD 13 0)) 40)) (Zn .u64 (wrap .u64 (p.getD 14 0)) 48)) (Zn .u64 (wrap .u64 (p.getD 15 0)) 56),Z4 .or .u64 (Z4 .or .u64 (Z4 .or .u64 (Z4 .or .u64 (Z4 .or .u64 (Z4 .or .u64 (Z4 .or .u64 (Z4 .or .u64 (0) (Zn .u64 (wrap .u64 (p.getD 16 0)) 0)) (Zn .u64 (wrap .u64 (p.getD 17 0)) 8)) (Zn .u64 (wrap .u64 (p.getD 18 0)) 16)) (Zn .u64 (wrap .u64 (p.getD 19 0)) 24)) (Zn .u64 (wrap .u64 (p.getD 20 0)) 32)) (Zn .u64 (wrap .u64 (p.getD 21 0)) 40)) (Zn .u64 (wrap .u64 (p.getD 22 0)) 48)) (Zn .u64 (wrap .u64 (p.getD 23 0)) 56),Z4 .or .u64 (Z4 .or .u64 (Z4 .or .u64 (Z4 .or .u64 (Z4 .or .u64 (Z4 .or .u64 (Z4 .or .u64 (Z4 .or .u64 (0) (Zn .u64 (wrap .u64 (p.getD 24 0)) 0)) (Zn .u64 (wrap .u64 (p.getD 25 0)) 8)) (Zn .u64 (wrap .u64 (p.getD 26 0)) 16)) (Zn .u64 (wrap .u64 (p.getD 27 0)) 24)) (Zn .u64 (wrap .u64 (p.getD 28 0)) 32)) (Zn .u64 (wrap .u64 (p.getD 29 0)) 40)) (Zn .u64 (wrap .u64 (p.getD 30 0)) 48)) (Zn .u64 (wrap .u64 (p.getD 31 0)) 56),Z4 .or .u64 (Z4 .or .u64 (Z4 .or .u64 (Z4 .or .u64 (Z4 .or .u64 (Z4 .or .u64 (Z4 .or .u64 (Z4 .or .u64 (0) (Zn .u64 (wrap .u64 (p.getD 32 0)) 0)) (Zn .u64 (wrap .u64 (p.getD 33 0)) 8)) (Zn .u64 (wrap .u64 (p.getD 34 0)) 16)) (Zn .u64 (wrap .u64 (p.getD 35 0)) 24)) (Zn .u64 (wrap .u64 (p.getD 36 0)) 32)) (Zn .u64 (wrap .u64 (p.getD 37 0)) 40)) (Zn .u64 (wrap .u64 (p.getD 38 0)) 48)) (Zn .u64 (wrap .u64 (p.getD 39 0)) 56),Z4 .or .u64 (Z4 .or .u64 (Z4 .or .u64 (Z4 .or .u64 (Z4 .or .u64 (Z4 .or .u64 (Z4 .or .u64 (Z4 .or .u64 (0) (Zn .u64 (wrap .u64 (p.getD 40 0)) 0)) (Zn .u64 (wrap .u64 (p.getD 41 0)) 8)) (Zn .u64 (wrap .u64 (p.getD 42 0)) 16)) (Zn .u64 (wrap .u64 (p.getD 43 0)) 24)) (Zn .u64 (wrap .u64 (p.getD 44 0)) 32)) (Zn .u64 (wrap .u64 (p.getD 45 0)) 40)) (Zn .u64 (wrap .u64 (p.getD 46 0)) 48)) (Zn .u64 (wrap .u64 (p.getD 47 0)) 56),Z4 .or .u64 (Z4 .or .u64 (Z4 .or .u64 (Z4 .or .u64 (Z4 .or .u64 (Z4 .or .u64 (Z4 .or .u64 (Z4 .or .u64 (0) (Zn .u64 (wrap .u64 (p.getD 48 0)) 0)) (Zn .u64 (wrap .u64 (p.getD 49 0)) 8)) (Zn .u64 (wrap .u64 (p.getD 50 0)) 16)) (Zn .u64 (wrap .u64 (p.getD 51 0)) 24)) (Zn .u64 (wrap .u64 (p.getD 52 0)) 32)) (Zn .u64 (wrap .u64 (p.getD 53 0)) 40)) (Zn .u64 (wrap .u64 (p.getD 54 0)) 48)) (Zn .u64 (wrap .u64 (p.getD 55 0)) 56),Z4 .or .u64 (Z4 .or .u64 (Z4 .or .u64 (Z4 .or .u64 (Z4 .or .u64 (Z4 .or .u64 (Z4 .or .u64 (Z4 .or .u64 (0) (Zn .u64 (wrap .u64 (p.getD 56 0)) 0)) (Zn .u64 (wrap .u64 (p.getD 57 0)) 8)) (Zn .u64 (wrap .u64 (p.getD 58 0)) 16)) (Zn .u64 (wrap .u64 (p.getD 59 0)) 24)) (Zn .u64 (wrap .u64 (p.getD 60 0)) 32)) (Zn .u64 (wrap .u64 (p.getD 61 0)) 40)) (Zn .u64 (wrap .u64 (p.getD 62 0)) 48)) (Zn .u64 (wrap .u64 (p.getD 63 0)) 56)]) 8=wval p:=by
  simp only [pV,List.getD_cons_zero,List.getD_cons_succ]
  rw [Zc2 (h 0) (h 1) (h 2) (h 3) (h 4) (h 5) (h 6) (h 7)]
  rw [Zc2 (h 8) (h 9) (h 10) (h 11) (h 12) (h 13) (h 14) (h 15)]
  rw [Zc2 (h 16) (h 17) (h 18) (h 19) (h 20) (h 21) (h 22) (h 23)]
  rw [Zc2 (h 24) (h 25) (h 26) (h 27) (h 28) (h 29) (h 30) (h 31)]
  rw [Zc2 (h 32) (h 33) (h 34) (h 35) (h 36) (h 37) (h 38) (h 39)]
  rw [Zc2 (h 40) (h 41) (h 42) (h 43) (h 44) (h 45) (h 46) (h 47)]
  rw [Zc2 (h 48) (h 49) (h 50) (h 51) (h 52) (h 53) (h 54) (h 55)]
  rw [Zc2 (h 56) (h 57) (h 58) (h 59) (h 60) (h 61) (h 62) (h 63)]
  have e0:(18446744073709551616:Int)^0=1:=by decide
  have e1:(18446744073709551616:Int)^1=18446744073709551616:=by decide
  have e2:(18446744073709551616:Int)^2=340282366920938463463374607431768211456:=by decide
  have e3:(18446744073709551616:Int)^3=6277101735386680763835789423207666416102355444464034512896:=by decide
  have e4:(18446744073709551616:Int)^4=115792089237316195423570985008687907853269984665640564039457584007913129639936:=by decide
  have e5:(18446744073709551616:Int)^5=2135987035920910082395021706169552114602704522356652769947041607822219725780640550022962086936576:=by decide
  have e6:(18446744073709551616:Int)^6=39402006196394479212279040100143613805079739270465446667948293404245721771497210611414266254884915640806627990306816:=by decide
  have e7:(18446744073709551616:Int)^7=726838724295606890549323807888004534353641360687318060281490199180639288113397923326191050713763565560762521606266177933534601628614656:=by decide
  rw [e0,e1,e2,e3,e4,e5,e6,e7]
  unfold wval
  omega
 obtain ⟨r,e,w,v⟩:=Zmf hw (Nat.le_refl _)
 rw [tk8,Z3 e,Z3 (Zq9 w),v]
 rw [show pV ([Z4 .or .u64 (Z4 .or .u64 (Z4 .or .u64 (Z4 .or .u64 (Z4 .or .u64 (Z4 .or .u64 (Z4 .or .u64 (Z4 .or .u64 (0) (Zn .u64 (wrap .u64 (p.getD 0 0)) 0)) (Zn .u64 (wrap .u64 (p.getD 1 0)) 8)) (Zn .u64 (wrap .u64 (p.getD 2 0)) 16)) (Zn .u64 (wrap .u64 (p.getD 3 0)) 24)) (Zn .u64 (wrap .u64 (p.getD 4 0)) 32)) (Zn .u64 (wrap .u64 (p.getD 5 0)) 40)) (Zn .u64 (wrap .u64 (p.getD 6 0)) 48)) (Zn .u64 (wrap .u64 (p.getD 7 0)) 56),Z4 .or .u64 (Z4 .or .u64 (Z4 .or .u64 (Z4 .or .u64 (Z4 .or .u64 (Z4 .or .u64 (Z4 .or .u64 (Z4 .or .u64 (0) (Zn .u64 (wrap .u64 (p.getD 8 0)) 0)) (Zn .u64 (wrap .u64 (p.getD 9 0)) 8)) (Zn .u64 (wrap .u64 (p.getD 10 0)) 16)) (Zn .u64 (wrap .u64 (p.getD 11 0)) 24)) (Zn .u64 (wrap .u64 (p.getD 12 0)) 32)) (Zn .u64 (wrap .u64 (p.getD 13 0)) 40)) (Zn .u64 (wrap .u64 (p.getD 14 0)) 48)) (Zn .u64 (wrap .u64 (p.getD 15 0)) 56),Z4 .or .u64 (Z4 .or .u64 (Z4 .or .u64 (Z4 .or .u64 (Z4 .or .u64 (Z4 .or .u64 (Z4 .or .u64 (Z4 .or .u64 (0) (Zn .u64 (wrap .u64 (p.getD 16 0)) 0)) (Zn .u64 (wrap .u64 (p.getD 17 0)) 8)) (Zn .u64 (wrap .u64 (p.getD 18 0)) 16)) (Zn .u64 (wrap .u64 (p.getD 19 0)) 24)) (Zn .u64 (wrap .u64 (p.getD 20 0)) 32)) (Zn .u64 (wrap .u64 (p.getD 21 0)) 40)) (Zn .u64 (wrap .u64 (p.getD 22 0)) 48)) (Zn .u64 (wrap .u64 (p.getD 23 0)) 56),Z4 .or .u64 (Z4 .or .u64 (Z4 .or .u64 (Z4 .or .u64 (Z4 .or .u64 (Z4 .or .u64 (Z4 .or .u64 (Z4 .or .u64 (0) (Zn .u64 (wrap .u64 (p.getD 24 0)) 0)) (Zn .u64 (wrap .u64 (p.getD 25 0)) 8)) (Zn .u64 (wrap .u64 (p.getD 26 0)) 16)) (Zn .u64 (wrap .u64 (p.getD 27 0)) 24)) (Zn .u64 (wrap .u64 (p.getD 28 0)) 32)) (Zn .u64 (wrap .u64 (p.getD 29 0)) 40)) (Zn .u64 (wrap .u64 (p.getD 30 0)) 48)) (Zn .u64 (wrap .u64 (p.getD 31 0)) 56),Z4 .or .u64 (Z4 .or .u64 (Z4 .or .u64 (Z4 .or .u64 (Z4 .or .u64 (Z4 .or .u64 (Z4 .or .u64 (Z4 .or .u64 (0) (Zn .u64 (wrap .u64 (p.getD 32 0)) 0)) (Zn .u64 (wrap .u64 (p.getD 33 0)) 8)) (Zn .u64 (wrap .u64 (p.getD 34 0)) 16)) (Zn .u64 (wrap .u64 (p.getD 35 0)) 24)) (Zn .u64 (wrap .u64 (p.getD 36 0)) 32)) (Zn .u64 (wrap .u64 (p.getD 37 0)) 40)) (Zn .u64 (wrap .u64 (p.getD 38 0)) 48)) (Zn .u64 (wrap .u64 (p.getD 39 0)) 56),Z4 .or .u64 (Z4 .or .u64 (Z4 .or .u64 (Z4 .or .u64 (Z4 .or .u64 (Z4 .or .u64 (Z4 .or .u64 (Z4 .or .u64 (0) (Zn .u64 (wrap .u64 (p.getD 40 0)) 0)) (Zn .u64 (wrap .u64 (p.getD 41 0)) 8)) (Zn .u64 (wrap .u64 (p.getD 42 0)) 16)) (Zn .u64 (wrap .u64 (p.getD 43 0)) 24)) (Zn .u64 (wrap .u64 (p.getD 44 0)) 32)) (Zn .u64 (wrap .u64 (p.getD 45 0)) 40)) (Zn .u64 (wrap .u64 (p.getD 46 0)) 48)) (Zn .u64 (wrap .u64 (p.getD 47 0)) 56),Z4 .or .u64 (Z4 .or .u64 (Z4 .or .u64 (Z4 .or .u64 (Z4 .or .u64 (Z4 .or .u64 (Z4 .or .u64 (Z4 .or .u64 (0) (Zn .u64 (wrap .u64 (p.getD 48 0)) 0)) (Zn .u64 (wrap .u64 (p.getD 49 0)) 8)) (Zn .u64 (wrap .u64 (p.getD 50 0)) 16)) (Zn .u64 (wrap .u64 (p.getD 51 0)) 24)) (Zn .u64 (wrap .u64 (p.getD 52 0)) 32)) (Zn .u64 (wrap .u64 (p.getD 53 0)) 40)) (Zn .u64 (wrap .u64 (p.getD 54 0)) 48)) (Zn .u64 (wrap .u64 (p.getD 55 0)) 56),Z4 .or .u64 (Z4 .or .u64 (Z4 .or .u64 (Z4 .or .u64 (Z4 .or .u64 (Z4 .or .u64 (Z4 .or .u64 (Z4 .or .u64 (0) (Zn .u64 (wrap .u64 (p.getD 56 0)) 0)) (Zn .u64 (wrap .u64 (p.getD 57 0)) 8)) (Zn .u64 (wrap .u64 (p.getD 58 0)) 16)) (Zn .u64 (wrap .u64 (p.getD 59 0)) 24)) (Zn .u64 (wrap .u64 (p.getD 60 0)) 32)) (Zn .u64 (wrap .u64 (p.getD 61 0)) 40)) (Zn .u64 (wrap .u64 (p.getD 62 0)) 48)) (Zn .u64 (wrap .u64 (p.getD 63 0)) 56)]) ([Z4 .or .u64 (Z4 .or .u64 (Z4 .or .u64 (Z4 .or .u64 (Z4 .or .u64 (Z4 .or .u64 (Z4 .or .u64 (Z4 .or .u64 (0) (Zn .u64 (wrap .u64 (p.getD 0 0)) 0)) (Zn .u64 (wrap .u64 (p.getD 1 0)) 8)) (Zn .u64 (wrap .u64 (p.getD 2 0)) 16)) (Zn .u64 (wrap .u64 (p.getD 3 0)) 24)) (Zn .u64 (wrap .u64 (p.getD 4 0)) 32)) (Zn .u64 (wrap .u64 (p.getD 5 0)) 40)) (Zn .u64 (wrap .u64 (p.getD 6 0)) 48)) (Zn .u64 (wrap .u64 (p.getD 7 0)) 56),Z4 .or .u64 (Z4 .or .u64 (Z4 .or .u64 (Z4 .or .u64 (Z4 .or .u64 (Z4 .or .u64 (Z4 .or .u64 (Z4 .or .u64 (0) (Zn .u64 (wrap .u64 (p.getD 8 0)) 0)) (Zn .u64 (wrap .u64 (p.getD 9 0)) 8)) (Zn .u64 (wrap .u64 (p.getD 10 0)) 16)) (Zn .u64 (wrap .u64 (p.getD 11 0)) 24)) (Zn .u64 (wrap .u64 (p.getD 12 0)) 32)) (Zn .u64 (wrap .u64 (p.getD 13 0)) 40)) (Zn .u64 (wrap .u64 (p.getD 14 0)) 48)) (Zn .u64 (wrap .u64 (p.getD 15 0)) 56),Z4 .or .u64 (Z4 .or .u64 (Z4 .or .u64 (Z4 .or .u64 (Z4 .or .u64 (Z4 .or .u64 (Z4 .or .u64 (Z4 .or .u64 (0) (Zn .u64 (wrap .u64 (p.getD 16 0)) 0)) (Zn .u64 (wrap .u64 (p.getD 17 0)) 8)) (Zn .u64 (wrap .u64 (p.getD 18 0)) 16)) (Zn .u64 (wrap .u64 (p.getD 19 0)) 24)) (Zn .u64 (wrap .u64 (p.getD 20 0)) 32)) (Zn .u64 (wrap .u64 (p.getD 21 0)) 40)) (Zn .u64 (wrap .u64 (p.getD 22 0)) 48)) (Zn .u64 (wrap .u64 (p.getD 23 0)) 56),Z4 .or .u64 (Z4 .or .u64 (Z4 .or .u64 (Z4 .or .u64 (Z4 .or .u64 (Z4 .or .u64 (Z4 .or .u64 (Z4 .or .u64 (0) (Zn .u64 (wrap .u64 (p.getD 24 0)) 0)) (Zn .u64 (wrap .u64 (p.getD 25 0)) 8)) (Zn .u64 (wrap .u64 (p.getD 26 0)) 16)) (Zn .u64 (wrap .u64 (p.getD 27 0)) 24)) (Zn .u64 (wrap .u64 (p.getD 28 0)) 32)) (Zn .u64 (wrap .u64 (p.getD 29 0)) 40)) (Zn .u64 (wrap .u64 (p.getD 30 0)) 48)) (Zn .u64 (wrap .u64 (p.getD 31 0)) 56),Z4 .or .u64 (Z4 .or .u64 (Z4 .or .u64 (Z4 .or .u64 (Z4 .or .u64 (Z4 .or .u64 (Z4 .or .u64 (Z4 .or .u64 (0) (Zn .u64 (wrap .u64 (p.getD 32 0)) 0)) (Zn .u64 (wrap .u64 (p.getD 33 0)) 8)) (Zn .u64 (wrap .u64 (p.getD 34 0)) 16)) (Zn .u64 (wrap .u64 (p.getD 35 0)) 24)) (Zn .u64 (wrap .u64 (p.getD 36 0)) 32)) (Zn .u64 (wrap .u64 (p.getD 37 0)) 40)) (Zn .u64 (wrap .u64 (p.getD 38 0)) 48)) (Zn .u64 (wrap .u64 (p.getD 39 0)) 56),Z4 .or .u64 (Z4 .or .u64 (Z4 .or .u64 (Z4 .or .u64 (Z4 .or .u64 (Z4 .or .u64 (Z4 .or .u64 (Z4 .or .u64 (0) (Zn .u64 (wrap .u64 (p.getD 40 0)) 0)) (Zn .u64 (wrap .u64 (p.getD 41 0)) 8)) (Zn .u64 (wrap .u64 (p.getD 42 0)) 16)) (Zn .u64 (wrap .u64 (p.getD 43 0)) 24)) (Zn .u64 (wrap .u64 (p.getD 44 0)) 32)) (Zn .u64 (wrap .u64 (p.getD 45 0)) 40)) (Zn .u64 (wrap .u64 (p.getD 46 0)) 48)) (Zn .u64 (wrap .u64 (p.getD 47 0)) 56),Z4 .or .u64 (Z4 .or .u64 (Z4 .or .u64 (Z4 .or .u64 (Z4 .or .u64 (Z4 .or .u64 (Z4 .or .u64 (Z4 .or .u64 (0) (Zn .u64 (wrap .u64 (p.getD 48 0)) 0)) (Zn .u64 (wrap .u64 (p.getD 49 0)) 8)) (Zn .u64 (wrap .u64 (p.getD 50 0)) 16)) (Zn .u64 (wrap .u64 (p.getD 51 0)) 24)) (Zn .u64 (wrap .u64 (p.getD 52 0)) 32)) (Zn .u64 (wrap .u64 (p.getD 53 0)) 40)) (Zn .u64 (wrap .u64 (p.getD 54 0)) 48)) (Zn .u64 (wrap .u64 (p.getD 55 0)) 56),Z4 .or .u64 (Z4 .or .u64 (Z4 .or .u64 (Z4 .or .u64 (Z4 .or .u64 (Z4 .or .u64 (Z4 .or .u64 (Z4 .or .u64 (0) (Zn .u64 (wrap .u64 (p.getD 56 0)) 0)) (Zn .u64 (wrap .u64 (p.getD 57 0)) 8)) (Zn .u64 (wrap .u64 (p.getD 58 0)) 16)) (Zn .u64 (wrap .u64 (p.getD 59 0)) 24)) (Zn .u64 (wrap .u64 (p.getD 60 0)) 32)) (Zn .u64 (wrap .u64 (p.getD 61 0)) 40)) (Zn .u64 (wrap .u64 (p.getD 62 0)) 48)) (Zn .u64 (wrap .u64 (p.getD 63 0)) 56)]).length=wval p from hv]
end Go.Proofs.YtkjfpenagcdmcaaGreatDoor
namespace Go.Proofs.YtkjfpenagcdmcaaGreatDoor
open Go Go.Sx Go.RowKit
set_option linter.all false
set_option maxRecDepth 100000
theorem Zy0 {a b:LI} (ha:Byt a) (hb:Byt b) : ∀ j,Zp1 a j=Zp1 b j->∀ i,i<j->a.getD (31-i) 0=b.getD (31-i) 0
 | 0,_,i,hi=>by omega
 | j+1,h,i,hi=>by
  have h1:=ha (31-j)
  have h2:=hb (31-j)
  have h':Zp1 a j*256+a.getD (31-j) 0=Zp1 b j*256+b.getD (31-j) 0:=h
  by_cases e:i=j
  ·subst e; omega
  ·exact Zy0 ha hb j (by omega) i (by omega)
theorem Z083 {a b:LI} (ha:Byt a) (hb:Byt b) (la:a.length=32) (lb:b.length=32) (h:Zci a=Zci b):a=b:=by
 rw [<- Zk8,<- Zk8] at h
 apply List.ext_getElem
 ·rw [la,lb]
 ·intro i h1 h2
  have:=Zy0 ha hb 32 h (31-i) (by omega)
  rw [show 31-(31-i)=i by omega] at this
  simpa [List.getD_eq_getElem?_getD,List.getElem?_eq_getElem h1,List.getElem?_eq_getElem h2] using this
theorem Zry {a:LI} (ha:Byt a):Zci a<115792089237316195423570985008687907853269984665640564039457584007913129639936:=by
 have key : ∀ j,j<=32->Zp1 a j<(256:Int)^j:=by
  intro j
  induction j with
  | zero=>intro _; show (0:Int)<1; omega
  | succ j ih =>
   intro hj
   have h1:=ha (31-j)
   have h2:=ih (by omega)
   show Zp1 a j*256+a.getD (31-j) 0<_
   rw [Int.pow_succ]
   omega
 have:=key 32 (Nat.le_refl _)
 rw [Zk8] at this
 have e2:(256:Int)^32=115792089237316195423570985008687907853269984665640564039457584007913129639936:=by decide
 omega
theorem Zxl {a:LI} (h:Byt a) (la:a.length=32):byt (Zci a)=a :=
 Z083 (Zoo _) h (Z92 _) la (Zz1 (Zgu h) (Zry h))
theorem Zxk (n:Int) : ∀ j,j<32->(byt n).getD j 0=n / ((256^j:Nat):Int)%256:=by
 intro j hj
 match j,hj with
 | 0,_=>show n%256=n / 1%256; rw [Int.ediv_one]
 | 1,_=>rfl
 | 2,_=>rfl
 | 3,_=>rfl
 | 4,_=>rfl
 | 5,_=>rfl
 | 6,_=>rfl
 | 7,_=>rfl
 | 8,_=>rfl
 | 9,_=>rfl
 | 10,_=>rfl
 | 11,_=>rfl
 | 12,_=>rfl
 | 13,_=>rfl
 | 14,_=>rfl
 | 15,_=>rfl
 | 16,_=>rfl
 | 17,_=>rfl
 | 18,_=>rfl
 | 19,_=>rfl
 | 20,_=>rfl
 | 21,_=>rfl
 | 22,_=>rfl
 | 23,_=>rfl
 | 24,_=>rfl
 | 25,_=>rfl
 | 26,_=>rfl
 | 27,_=>rfl
 | 28,_=>rfl
 | 29,_=>rfl
 | 30,_=>rfl
 | 31,_=>rfl
 | j+32,h=>exact absurd h (by omega)
theorem Z0ad {p:LI} (h:Byt p) (l:p.length=32) {j:Nat} (hj:j<32):p.getD j 0=Zci p / ((256^j:Nat):Int)%256:=by
 have e:=Zxk (Zci p) j hj
 rw [Zxl h l] at e
 exact e
end Go.Proofs.YtkjfpenagcdmcaaGreatDoor
