/- Texts of a proof, one behind the other: F6 C1 C2 C3 G1 G2 V1 V2 N1 N2 N3 N7 N8 N9 N10 N11 N12 H1 H2 V3 G3 H3 Q10 Q11 Q14. -/
import Derived.Test.YtiflckckekjbnaaDoorMH4
import Derived.KernelRfl
namespace Go.Proofs.YtiflckckekjbnaaDoor
open Go Go.Sx Go.RowKit
set_option linter.all false
set_option maxRecDepth 100000
set_option maxHeartbeats 1000000
theorem Z0d (k:Nat) {x y a:Int} (hx:x=a*((2^k:Nat):Int)) (ha:0≤a) (h0:0≤y) (hy:y<((2^k:Nat):Int)) (h1:y+x<18446744073709551616):Z4 .or .u64 y x=y+x:=by
  have hp:(0:Int)≤((2^k:Nat):Int):=Int.natCast_nonneg _
  have hx0:0≤x:=by rw [hx]; exact Int.mul_nonneg ha hp
  have:=Zp3 k hx ha h0 hy (by omega)
  rw [or64 y.toNat x.toNat (by omega) (by omega) (by omega) (by omega)]
  rw [or64 x.toNat y.toNat (by omega) (by omega) (by omega) (by omega)] at this
  rw [Nat.or_comm,this,Int.add_comm]
def byt (n:Int):List Int:=[n%256,n / 256%256,n / 65536%256,n / 16777216%256,n / 4294967296%256,n / 1099511627776%256,n / 281474976710656%256,n / 72057594037927936%256,n / 18446744073709551616%256,n / 4722366482869645213696%256,n / 1208925819614629174706176%256,n / 309485009821345068724781056%256,n / 79228162514264337593543950336%256,n / 20282409603651670423947251286016%256,n / 5192296858534827628530496329220096%256,n / 1329227995784915872903807060280344576%256,n / 340282366920938463463374607431768211456%256,n / 87112285931760246646623899502532662132736%256,n / 22300745198530623141535718272648361505980416%256,n / 5708990770823839524233143877797980545530986496%256,n / 1461501637330902918203684832716283019655932542976%256,n / 374144419156711147060143317175368453031918731001856%256,n / 95780971304118053647396689196894323976171195136475136%256,n / 24519928653854221733733552434404946937899825954937634816%256,n / 6277101735386680763835789423207666416102355444464034512896%256,n / 1606938044258990275541962092341162602522202993782792835301376%256,n / 411376139330301510538742295639337626245683966408394965837152256%256,n / 105312291668557186697918027683670432318895095400549111254310977536%256,n / 26959946667150639794667015087019630673637144422540572481103610249216%256,n / 6901746346790563787434755862277025452451108972170386555162524223799296%256,n / 1766847064778384329583297500742918515827483896875618958121606201292619776%256,n / 452312848583266388373324160190187140051835877600158453279131187530910662656%256]
theorem Znx (k:List Int→Option (List Int)) (y0 y1 y2 y3 y4:Int):Z50 [y0,y1,y2,y3,y4] k big 0 (List.replicate 32 0)=k [IntKind.wrap .u8 (Zh .u64 y0 0),IntKind.wrap .u8 (Zh .u64 y0 8),IntKind.wrap .u8 (Zh .u64 y0 16),IntKind.wrap .u8 (Zh .u64 y0 24),IntKind.wrap .u8 (Zh .u64 y0 32),IntKind.wrap .u8 (Zh .u64 y0 40),IntKind.wrap .u8 (Z4 .or .u64 (Zh .u64 y0 48) (Zq .u64 y1 3)),IntKind.wrap .u8 (Zh .u64 y1 5),IntKind.wrap .u8 (Zh .u64 y1 13),IntKind.wrap .u8 (Zh .u64 y1 21),IntKind.wrap .u8 (Zh .u64 y1 29),IntKind.wrap .u8 (Zh .u64 y1 37),IntKind.wrap .u8 (Z4 .or .u64 (Zh .u64 y1 45) (Zq .u64 y2 6)),IntKind.wrap .u8 (Zh .u64 y2 2),IntKind.wrap .u8 (Zh .u64 y2 10),IntKind.wrap .u8 (Zh .u64 y2 18),IntKind.wrap .u8 (Zh .u64 y2 26),IntKind.wrap .u8 (Zh .u64 y2 34),IntKind.wrap .u8 (Zh .u64 y2 42),IntKind.wrap .u8 (Z4 .or .u64 (Zh .u64 y2 50) (Zq .u64 y3 1)),IntKind.wrap .u8 (Zh .u64 y3 7),IntKind.wrap .u8 (Zh .u64 y3 15),IntKind.wrap .u8 (Zh .u64 y3 23),IntKind.wrap .u8 (Zh .u64 y3 31),IntKind.wrap .u8 (Zh .u64 y3 39),IntKind.wrap .u8 (Z4 .or .u64 (Zh .u64 y3 47) (Zq .u64 y4 4)),IntKind.wrap .u8 (Zh .u64 y4 4),IntKind.wrap .u8 (Zh .u64 y4 12),IntKind.wrap .u8 (Zh .u64 y4 20),IntKind.wrap .u8 (Zh .u64 y4 28),IntKind.wrap .u8 (Zh .u64 y4 36),IntKind.wrap .u8 (Zh .u64 y4 44)]:=by kernel_rfl
theorem Z1r (x:Int) (n:Nat) (h:n≤64):Zh .u64 x (n:Int)=x / ((2^n:Nat):Int):=Zc8 .u64 h
theorem Zwn {n:Int} (h0:0≤n):IntKind.wrap .u8 (Zh .u64 (n%2251799813685248) 0)=n%256:=by
  have:=Z1r (n%2251799813685248) 0 (by decide)
  rw [show ((2^0:Nat):Int)=1 from rfl] at this
  refine (congrArg _ this).trans ?_
  rw [Z0c]
  omega
theorem Zwo {n:Int} (h0:0≤n):IntKind.wrap .u8 (Zh .u64 (n%2251799813685248) 8)=n / 256%256:=by
  have:=Z1r (n%2251799813685248) 8 (by decide)
  rw [show ((2^8:Nat):Int)=256 from rfl] at this
  refine (congrArg _ this).trans ?_
  rw [Z0c]
  omega
theorem Zwp {n:Int} (h0:0≤n):IntKind.wrap .u8 (Zh .u64 (n%2251799813685248) 16)=n / 65536%256:=by
  have:=Z1r (n%2251799813685248) 16 (by decide)
  rw [show ((2^16:Nat):Int)=65536 from rfl] at this
  refine (congrArg _ this).trans ?_
  rw [Z0c]
  omega
theorem Zwq {n:Int} (h0:0≤n):IntKind.wrap .u8 (Zh .u64 (n%2251799813685248) 24)=n / 16777216%256:=by
  have:=Z1r (n%2251799813685248) 24 (by decide)
  rw [show ((2^24:Nat):Int)=16777216 from rfl] at this
  refine (congrArg _ this).trans ?_
  rw [Z0c]
  omega
theorem Zwr {n:Int} (h0:0≤n):IntKind.wrap .u8 (Zh .u64 (n%2251799813685248) 32)=n / 4294967296%256:=by
  have:=Z1r (n%2251799813685248) 32 (by decide)
  rw [show ((2^32:Nat):Int)=4294967296 from rfl] at this
  refine (congrArg _ this).trans ?_
  rw [Z0c]
  omega
theorem Zws {n:Int} (h0:0≤n):IntKind.wrap .u8 (Zh .u64 (n%2251799813685248) 40)=n / 1099511627776%256:=by
  have:=Z1r (n%2251799813685248) 40 (by decide)
  rw [show ((2^40:Nat):Int)=1099511627776 from rfl] at this
  refine (congrArg _ this).trans ?_
  rw [Z0c]
  omega
theorem Zwt {n:Int} (h0:0≤n):IntKind.wrap .u8 (Z4 .or .u64 (Zh .u64 (n%2251799813685248) 48) (Zq .u64 (n / 2251799813685248%2251799813685248) 3))=n / 281474976710656%256:=by
  have e1:Zh .u64 (n%2251799813685248) 48=n / 281474976710656%8:=by
    have:=Z1r (n%2251799813685248) 48 (by decide)
    rw [show ((2^48:Nat):Int)=281474976710656 from rfl] at this
    refine this.trans ?_
    omega
  have e2:Zq .u64 (n / 2251799813685248%2251799813685248) 3=(n / 2251799813685248%2251799813685248)*8:=by
    have:=Zew .u64 (x:=n / 2251799813685248%2251799813685248) (n:=3) (by decide)
    rw [show ((2^3:Nat):Int)=8 from rfl] at this
    refine this.trans (Zv (by omega) (by omega))
  rw [e1,e2,Z0d 3 (x:=(n / 2251799813685248%2251799813685248)*8) (y:=n / 281474976710656%8) (a:=n / 2251799813685248%2251799813685248) rfl (by omega) (by omega) (by show _<(8:Int); omega) (by omega),Z0c]
  omega
theorem Zwu {n:Int} (h0:0≤n):IntKind.wrap .u8 (Zh .u64 (n / 2251799813685248%2251799813685248) 5)=n / 72057594037927936%256:=by
  have:=Z1r (n / 2251799813685248%2251799813685248) 5 (by decide)
  rw [show ((2^5:Nat):Int)=32 from rfl] at this
  refine (congrArg _ this).trans ?_
  rw [Z0c]
  omega
theorem Zwv {n:Int} (h0:0≤n):IntKind.wrap .u8 (Zh .u64 (n / 2251799813685248%2251799813685248) 13)=n / 18446744073709551616%256:=by
  have:=Z1r (n / 2251799813685248%2251799813685248) 13 (by decide)
  rw [show ((2^13:Nat):Int)=8192 from rfl] at this
  refine (congrArg _ this).trans ?_
  rw [Z0c]
  omega
theorem Zww {n:Int} (h0:0≤n):IntKind.wrap .u8 (Zh .u64 (n / 2251799813685248%2251799813685248) 21)=n / 4722366482869645213696%256:=by
  have:=Z1r (n / 2251799813685248%2251799813685248) 21 (by decide)
  rw [show ((2^21:Nat):Int)=2097152 from rfl] at this
  refine (congrArg _ this).trans ?_
  rw [Z0c]
  omega
theorem Ztq {n:Int} (h0:0≤n):IntKind.wrap .u8 (Zh .u64 (n / 2251799813685248%2251799813685248) 29)=n / 1208925819614629174706176%256:=by
  have:=Z1r (n / 2251799813685248%2251799813685248) 29 (by decide)
  rw [show ((2^29:Nat):Int)=536870912 from rfl] at this
  refine (congrArg _ this).trans ?_
  rw [Z0c]
  omega
theorem Ztr {n:Int} (h0:0≤n):IntKind.wrap .u8 (Zh .u64 (n / 2251799813685248%2251799813685248) 37)=n / 309485009821345068724781056%256:=by
  have:=Z1r (n / 2251799813685248%2251799813685248) 37 (by decide)
  rw [show ((2^37:Nat):Int)=137438953472 from rfl] at this
  refine (congrArg _ this).trans ?_
  rw [Z0c]
  omega
theorem Zts {n:Int} (h0:0≤n):IntKind.wrap .u8 (Z4 .or .u64 (Zh .u64 (n / 2251799813685248%2251799813685248) 45) (Zq .u64 (n / 5070602400912917605986812821504%2251799813685248) 6))=n / 79228162514264337593543950336%256:=by
  have e1:Zh .u64 (n / 2251799813685248%2251799813685248) 45=n / 79228162514264337593543950336%64:=by
    have:=Z1r (n / 2251799813685248%2251799813685248) 45 (by decide)
    rw [show ((2^45:Nat):Int)=35184372088832 from rfl] at this
    refine this.trans ?_
    omega
  have e2:Zq .u64 (n / 5070602400912917605986812821504%2251799813685248) 6=(n / 5070602400912917605986812821504%2251799813685248)*64:=by
    have:=Zew .u64 (x:=n / 5070602400912917605986812821504%2251799813685248) (n:=6) (by decide)
    rw [show ((2^6:Nat):Int)=64 from rfl] at this
    refine this.trans (Zv (by omega) (by omega))
  rw [e1,e2,Z0d 6 (x:=(n / 5070602400912917605986812821504%2251799813685248)*64) (y:=n / 79228162514264337593543950336%64) (a:=n / 5070602400912917605986812821504%2251799813685248) rfl (by omega) (by omega) (by show _<(64:Int); omega) (by omega),Z0c]
  omega
theorem Ztt {n:Int} (h0:0≤n):IntKind.wrap .u8 (Zh .u64 (n / 5070602400912917605986812821504%2251799813685248) 2)=n / 20282409603651670423947251286016%256:=by
  have:=Z1r (n / 5070602400912917605986812821504%2251799813685248) 2 (by decide)
  rw [show ((2^2:Nat):Int)=4 from rfl] at this
  refine (congrArg _ this).trans ?_
  rw [Z0c]
  omega
theorem Ztu {n:Int} (h0:0≤n):IntKind.wrap .u8 (Zh .u64 (n / 5070602400912917605986812821504%2251799813685248) 10)=n / 5192296858534827628530496329220096%256:=by
  have:=Z1r (n / 5070602400912917605986812821504%2251799813685248) 10 (by decide)
  rw [show ((2^10:Nat):Int)=1024 from rfl] at this
  refine (congrArg _ this).trans ?_
  rw [Z0c]
  omega
theorem Ztv {n:Int} (h0:0≤n):IntKind.wrap .u8 (Zh .u64 (n / 5070602400912917605986812821504%2251799813685248) 18)=n / 1329227995784915872903807060280344576%256:=by
  have:=Z1r (n / 5070602400912917605986812821504%2251799813685248) 18 (by decide)
  rw [show ((2^18:Nat):Int)=262144 from rfl] at this
  refine (congrArg _ this).trans ?_
  rw [Z0c]
  omega
theorem Ztw {n:Int} (h0:0≤n):IntKind.wrap .u8 (Zh .u64 (n / 5070602400912917605986812821504%2251799813685248) 26)=n / 340282366920938463463374607431768211456%256:=by
  have:=Z1r (n / 5070602400912917605986812821504%2251799813685248) 26 (by decide)
  rw [show ((2^26:Nat):Int)=67108864 from rfl] at this
  refine (congrArg _ this).trans ?_
  rw [Z0c]
  omega
theorem Ztx {n:Int} (h0:0≤n):IntKind.wrap .u8 (Zh .u64 (n / 5070602400912917605986812821504%2251799813685248) 34)=n / 87112285931760246646623899502532662132736%256:=by
  have:=Z1r (n / 5070602400912917605986812821504%2251799813685248) 34 (by decide)
  rw [show ((2^34:Nat):Int)=17179869184 from rfl] at this
  refine (congrArg _ this).trans ?_
  rw [Z0c]
  omega
theorem Zty {n:Int} (h0:0≤n):IntKind.wrap .u8 (Zh .u64 (n / 5070602400912917605986812821504%2251799813685248) 42)=n / 22300745198530623141535718272648361505980416%256:=by
  have:=Z1r (n / 5070602400912917605986812821504%2251799813685248) 42 (by decide)
  rw [show ((2^42:Nat):Int)=4398046511104 from rfl] at this
  refine (congrArg _ this).trans ?_
  rw [Z0c]
  omega
theorem Ztz {n:Int} (h0:0≤n):IntKind.wrap .u8 (Z4 .or .u64 (Zh .u64 (n / 5070602400912917605986812821504%2251799813685248) 50) (Zq .u64 (n / 11417981541647679048466287755595961091061972992%2251799813685248) 1))=n / 5708990770823839524233143877797980545530986496%256:=by
  have e1:Zh .u64 (n / 5070602400912917605986812821504%2251799813685248) 50=n / 5708990770823839524233143877797980545530986496%2:=by
    have:=Z1r (n / 5070602400912917605986812821504%2251799813685248) 50 (by decide)
    rw [show ((2^50:Nat):Int)=1125899906842624 from rfl] at this
    refine this.trans ?_
    omega
  have e2:Zq .u64 (n / 11417981541647679048466287755595961091061972992%2251799813685248) 1=(n / 11417981541647679048466287755595961091061972992%2251799813685248)*2:=by
    have:=Zew .u64 (x:=n / 11417981541647679048466287755595961091061972992%2251799813685248) (n:=1) (by decide)
    rw [show ((2^1:Nat):Int)=2 from rfl] at this
    refine this.trans (Zv (by omega) (by omega))
  rw [e1,e2,Z0d 1 (x:=(n / 11417981541647679048466287755595961091061972992%2251799813685248)*2) (y:=n / 5708990770823839524233143877797980545530986496%2) (a:=n / 11417981541647679048466287755595961091061972992%2251799813685248) rfl (by omega) (by omega) (by show _<(2:Int); omega) (by omega),Z0c]
  omega
theorem Zu0 {n:Int} (h0:0≤n):IntKind.wrap .u8 (Zh .u64 (n / 11417981541647679048466287755595961091061972992%2251799813685248) 7)=n / 1461501637330902918203684832716283019655932542976%256:=by
  have:=Z1r (n / 11417981541647679048466287755595961091061972992%2251799813685248) 7 (by decide)
  rw [show ((2^7:Nat):Int)=128 from rfl] at this
  refine (congrArg _ this).trans ?_
  rw [Z0c]
  omega
theorem Zu1 {n:Int} (h0:0≤n):IntKind.wrap .u8 (Zh .u64 (n / 11417981541647679048466287755595961091061972992%2251799813685248) 15)=n / 374144419156711147060143317175368453031918731001856%256:=by
  have:=Z1r (n / 11417981541647679048466287755595961091061972992%2251799813685248) 15 (by decide)
  rw [show ((2^15:Nat):Int)=32768 from rfl] at this
  refine (congrArg _ this).trans ?_
  rw [Z0c]
  omega
theorem Zu2 {n:Int} (h0:0≤n):IntKind.wrap .u8 (Zh .u64 (n / 11417981541647679048466287755595961091061972992%2251799813685248) 23)=n / 95780971304118053647396689196894323976171195136475136%256:=by
  have:=Z1r (n / 11417981541647679048466287755595961091061972992%2251799813685248) 23 (by decide)
  rw [show ((2^23:Nat):Int)=8388608 from rfl] at this
  refine (congrArg _ this).trans ?_
  rw [Z0c]
  omega
theorem Zu3 {n:Int} (h0:0≤n):IntKind.wrap .u8 (Zh .u64 (n / 11417981541647679048466287755595961091061972992%2251799813685248) 31)=n / 24519928653854221733733552434404946937899825954937634816%256:=by
  have:=Z1r (n / 11417981541647679048466287755595961091061972992%2251799813685248) 31 (by decide)
  rw [show ((2^31:Nat):Int)=2147483648 from rfl] at this
  refine (congrArg _ this).trans ?_
  rw [Z0c]
  omega
theorem Zu4 {n:Int} (h0:0≤n):IntKind.wrap .u8 (Zh .u64 (n / 11417981541647679048466287755595961091061972992%2251799813685248) 39)=n / 6277101735386680763835789423207666416102355444464034512896%256:=by
  have:=Z1r (n / 11417981541647679048466287755595961091061972992%2251799813685248) 39 (by decide)
  rw [show ((2^39:Nat):Int)=549755813888 from rfl] at this
  refine (congrArg _ this).trans ?_
  rw [Z0c]
  omega
theorem Zu5 {n:Int} (h0:0≤n):IntKind.wrap .u8 (Z4 .or .u64 (Zh .u64 (n / 11417981541647679048466287755595961091061972992%2251799813685248) 47) (Zq .u64 (n / 25711008708143844408671393477458601640355247900524685364822016%2251799813685248) 4))=n / 1606938044258990275541962092341162602522202993782792835301376%256:=by
  have e1:Zh .u64 (n / 11417981541647679048466287755595961091061972992%2251799813685248) 47=n / 1606938044258990275541962092341162602522202993782792835301376%16:=by
    have:=Z1r (n / 11417981541647679048466287755595961091061972992%2251799813685248) 47 (by decide)
    rw [show ((2^47:Nat):Int)=140737488355328 from rfl] at this
    refine this.trans ?_
    omega
  have e2:Zq .u64 (n / 25711008708143844408671393477458601640355247900524685364822016%2251799813685248) 4=(n / 25711008708143844408671393477458601640355247900524685364822016%2251799813685248)*16:=by
    have:=Zew .u64 (x:=n / 25711008708143844408671393477458601640355247900524685364822016%2251799813685248) (n:=4) (by decide)
    rw [show ((2^4:Nat):Int)=16 from rfl] at this
    refine this.trans (Zv (by omega) (by omega))
  rw [e1,e2,Z0d 4 (x:=(n / 25711008708143844408671393477458601640355247900524685364822016%2251799813685248)*16) (y:=n / 1606938044258990275541962092341162602522202993782792835301376%16) (a:=n / 25711008708143844408671393477458601640355247900524685364822016%2251799813685248) rfl (by omega) (by omega) (by show _<(16:Int); omega) (by omega),Z0c]
  omega
theorem Zu6 {n:Int} (h0:0≤n) (h1:n<57896044618658097711785492504343953926634992332820282019728792003956564819949):IntKind.wrap .u8 (Zh .u64 (n / 25711008708143844408671393477458601640355247900524685364822016%2251799813685248) 4)=n / 411376139330301510538742295639337626245683966408394965837152256%256:=by
  have:=Z1r (n / 25711008708143844408671393477458601640355247900524685364822016%2251799813685248) 4 (by decide)
  rw [show ((2^4:Nat):Int)=16 from rfl] at this
  refine (congrArg _ this).trans ?_
  rw [Z0c]
  omega
theorem Zu7 {n:Int} (h0:0≤n) (h1:n<57896044618658097711785492504343953926634992332820282019728792003956564819949):IntKind.wrap .u8 (Zh .u64 (n / 25711008708143844408671393477458601640355247900524685364822016%2251799813685248) 12)=n / 105312291668557186697918027683670432318895095400549111254310977536%256:=by
  have:=Z1r (n / 25711008708143844408671393477458601640355247900524685364822016%2251799813685248) 12 (by decide)
  rw [show ((2^12:Nat):Int)=4096 from rfl] at this
  refine (congrArg _ this).trans ?_
  rw [Z0c]
  omega
theorem Zu8 {n:Int} (h0:0≤n) (h1:n<57896044618658097711785492504343953926634992332820282019728792003956564819949):IntKind.wrap .u8 (Zh .u64 (n / 25711008708143844408671393477458601640355247900524685364822016%2251799813685248) 20)=n / 26959946667150639794667015087019630673637144422540572481103610249216%256:=by
  have:=Z1r (n / 25711008708143844408671393477458601640355247900524685364822016%2251799813685248) 20 (by decide)
  rw [show ((2^20:Nat):Int)=1048576 from rfl] at this
  refine (congrArg _ this).trans ?_
  rw [Z0c]
  omega
theorem Zu9 {n:Int} (h0:0≤n) (h1:n<57896044618658097711785492504343953926634992332820282019728792003956564819949):IntKind.wrap .u8 (Zh .u64 (n / 25711008708143844408671393477458601640355247900524685364822016%2251799813685248) 28)=n / 6901746346790563787434755862277025452451108972170386555162524223799296%256:=by
  have:=Z1r (n / 25711008708143844408671393477458601640355247900524685364822016%2251799813685248) 28 (by decide)
  rw [show ((2^28:Nat):Int)=268435456 from rfl] at this
  refine (congrArg _ this).trans ?_
  rw [Z0c]
  omega
theorem Zua {n:Int} (h0:0≤n) (h1:n<57896044618658097711785492504343953926634992332820282019728792003956564819949):IntKind.wrap .u8 (Zh .u64 (n / 25711008708143844408671393477458601640355247900524685364822016%2251799813685248) 36)=n / 1766847064778384329583297500742918515827483896875618958121606201292619776%256:=by
  have:=Z1r (n / 25711008708143844408671393477458601640355247900524685364822016%2251799813685248) 36 (by decide)
  rw [show ((2^36:Nat):Int)=68719476736 from rfl] at this
  refine (congrArg _ this).trans ?_
  rw [Z0c]
  omega
theorem Zub {n:Int} (h0:0≤n) (h1:n<57896044618658097711785492504343953926634992332820282019728792003956564819949):IntKind.wrap .u8 (Zh .u64 (n / 25711008708143844408671393477458601640355247900524685364822016%2251799813685248) 44)=n / 452312848583266388373324160190187140051835877600158453279131187530910662656%256:=by
  have:=Z1r (n / 25711008708143844408671393477458601640355247900524685364822016%2251799813685248) 44 (by decide)
  rw [show ((2^44:Nat):Int)=17592186044416 from rfl] at this
  refine (congrArg _ this).trans ?_
  rw [Z0c]
  omega
theorem Zlc {x:List Int} (hx:U5 x):Z7s x=some (byt (Z58 x%PP)):=by
  rw [Z7s,Z3 (Z4e hx),Z2f]
  have h0:0≤Z58 x%PP:=Int.emod_nonneg _ (by decide)
  have h1:Z58 x%PP<PP:=Int.emod_lt_of_pos _ Zdh
  unfold Zgm
  generalize Z58 x%PP=n at *
  have e:Zec n = [n%2251799813685248,n / 2251799813685248%2251799813685248,n / 5070602400912917605986812821504%2251799813685248,n / 11417981541647679048466287755595961091061972992%2251799813685248,n / 25711008708143844408671393477458601640355247900524685364822016%2251799813685248]:=rfl
  rw [e,Znx,Zwn h0,Zwo h0,Zwp h0,Zwq h0,Zwr h0,Zws h0,Zwt h0,Zwu h0,Zwv h0,Zww h0,Ztq h0,Ztr h0,Zts h0,Ztt h0,Ztu h0,Ztv h0,Ztw h0,Ztx h0,Zty h0,Ztz h0,Zu0 h0,Zu1 h0,Zu2 h0,Zu3 h0,Zu4 h0,Zu5 h0,Zu6 h0 h1,Zu7 h0 h1,Zu8 h0 h1,Zu9 h0 h1,Zua h0 h1,Zub h0 h1]
  rfl
theorem Zx4 (k:List Int→Option (List Int)) (x:List Int):Z2w x k big 0 (List.replicate 5 0)=k [Z4 .or .u64 (Z4 .or .u64 (Z4 .or .u64 (Z4 .or .u64 (Z4 .or .u64 (Z4 .or .u64 (Z4 .or .u64 (0) (Z4 .and .u64 (Zq .u64 (IntKind.wrap .u64 (x.getD 0 0)) 0) 2251799813685247)) (Z4 .and .u64 (Zq .u64 (IntKind.wrap .u64 (x.getD 1 0)) 8) 2251799813685247)) (Z4 .and .u64 (Zq .u64 (IntKind.wrap .u64 (x.getD 2 0)) 16) 2251799813685247)) (Z4 .and .u64 (Zq .u64 (IntKind.wrap .u64 (x.getD 3 0)) 24) 2251799813685247)) (Z4 .and .u64 (Zq .u64 (IntKind.wrap .u64 (x.getD 4 0)) 32) 2251799813685247)) (Z4 .and .u64 (Zq .u64 (IntKind.wrap .u64 (x.getD 5 0)) 40) 2251799813685247)) (Z4 .and .u64 (Zq .u64 (IntKind.wrap .u64 (x.getD 6 0)) 48) 2251799813685247),
  Z4 .or .u64 (Z4 .or .u64 (Z4 .or .u64 (Z4 .or .u64 (Z4 .or .u64 (Z4 .or .u64 (Z4 .or .u64 (0) (Zh .u64 (IntKind.wrap .u64 (x.getD 6 0)) 3)) (Z4 .and .u64 (Zq .u64 (IntKind.wrap .u64 (x.getD 7 0)) 5) 2251799813685247)) (Z4 .and .u64 (Zq .u64 (IntKind.wrap .u64 (x.getD 8 0)) 13) 2251799813685247)) (Z4 .and .u64 (Zq .u64 (IntKind.wrap .u64 (x.getD 9 0)) 21) 2251799813685247)) (Z4 .and .u64 (Zq .u64 (IntKind.wrap .u64 (x.getD 10 0)) 29) 2251799813685247)) (Z4 .and .u64 (Zq .u64 (IntKind.wrap .u64 (x.getD 11 0)) 37) 2251799813685247)) (Z4 .and .u64 (Zq .u64 (IntKind.wrap .u64 (x.getD 12 0)) 45) 2251799813685247),
  Z4 .or .u64 (Z4 .or .u64 (Z4 .or .u64 (Z4 .or .u64 (Z4 .or .u64 (Z4 .or .u64 (Z4 .or .u64 (Z4 .or .u64 (0) (Zh .u64 (IntKind.wrap .u64 (x.getD 12 0)) 6)) (Z4 .and .u64 (Zq .u64 (IntKind.wrap .u64 (x.getD 13 0)) 2) 2251799813685247)) (Z4 .and .u64 (Zq .u64 (IntKind.wrap .u64 (x.getD 14 0)) 10) 2251799813685247)) (Z4 .and .u64 (Zq .u64 (IntKind.wrap .u64 (x.getD 15 0)) 18) 2251799813685247)) (Z4 .and .u64 (Zq .u64 (IntKind.wrap .u64 (x.getD 16 0)) 26) 2251799813685247)) (Z4 .and .u64 (Zq .u64 (IntKind.wrap .u64 (x.getD 17 0)) 34) 2251799813685247)) (Z4 .and .u64 (Zq .u64 (IntKind.wrap .u64 (x.getD 18 0)) 42) 2251799813685247)) (Z4 .and .u64 (Zq .u64 (IntKind.wrap .u64 (x.getD 19 0)) 50) 2251799813685247),
  Z4 .or .u64 (Z4 .or .u64 (Z4 .or .u64 (Z4 .or .u64 (Z4 .or .u64 (Z4 .or .u64 (Z4 .or .u64 (0) (Zh .u64 (IntKind.wrap .u64 (x.getD 19 0)) 1)) (Z4 .and .u64 (Zq .u64 (IntKind.wrap .u64 (x.getD 20 0)) 7) 2251799813685247)) (Z4 .and .u64 (Zq .u64 (IntKind.wrap .u64 (x.getD 21 0)) 15) 2251799813685247)) (Z4 .and .u64 (Zq .u64 (IntKind.wrap .u64 (x.getD 22 0)) 23) 2251799813685247)) (Z4 .and .u64 (Zq .u64 (IntKind.wrap .u64 (x.getD 23 0)) 31) 2251799813685247)) (Z4 .and .u64 (Zq .u64 (IntKind.wrap .u64 (x.getD 24 0)) 39) 2251799813685247)) (Z4 .and .u64 (Zq .u64 (IntKind.wrap .u64 (x.getD 25 0)) 47) 2251799813685247),
  Z4 .or .u64 (Z4 .or .u64 (Z4 .or .u64 (Z4 .or .u64 (Z4 .or .u64 (Z4 .or .u64 (Z4 .or .u64 (0) (Zh .u64 (IntKind.wrap .u64 (x.getD 25 0)) 4)) (Z4 .and .u64 (Zq .u64 (IntKind.wrap .u64 (x.getD 26 0)) 4) 2251799813685247)) (Z4 .and .u64 (Zq .u64 (IntKind.wrap .u64 (x.getD 27 0)) 12) 2251799813685247)) (Z4 .and .u64 (Zq .u64 (IntKind.wrap .u64 (x.getD 28 0)) 20) 2251799813685247)) (Z4 .and .u64 (Zq .u64 (IntKind.wrap .u64 (x.getD 29 0)) 28) 2251799813685247)) (Z4 .and .u64 (Zq .u64 (IntKind.wrap .u64 (x.getD 30 0)) 36) 2251799813685247)) (Z4 .and .u64 (Zq .u64 (IntKind.wrap .u64 (Z4 .and .u8 (x.getD 31 0) 127)) 44) 2251799813685247)]:=by kernel_rfl
theorem Z13 (k:Nat) {b:Int} (hk:k≤51) (hb:0≤b∧b<256):Z4 .and .u64 (Zq .u64 (IntKind.wrap .u64 b) (k:Int)) 2251799813685247=b%((2^(51-k):Nat):Int)*((2^k:Nat):Int):=by
  have hp:(0:Int)<((2^k:Nat):Int):=by have:=Nat.pow_pos (n:=k) (show 0<2 by decide); omega
  have hq:(0:Int)<((2^(51-k):Nat):Int):=by have:=Nat.pow_pos (n:=51-k) (show 0<2 by decide); omega
  have hle:((2^k:Nat):Int)≤2251799813685248:=by
    have:=Nat.pow_le_pow_right (show 0<2 by decide) hk
    have e:(2^51:Nat)=2251799813685248:=by decide
    omega
  have hprod:((2^k:Nat):Int)*((2^(51-k):Nat):Int)=2251799813685248:=by
    rw [← Int.natCast_mul,← Nat.pow_add,show k+(51-k)=51 by omega]; rfl
  have hbk:b*((2^k:Nat):Int)≤256*2251799813685248:=Int.mul_le_mul (by omega) hle (by omega) (by omega)
  have hbk0:0≤b*((2^k:Nat):Int):=Int.mul_nonneg hb.1 (by omega)
  rw [Zv hb.1 (by omega),Zew .u64 (n:=k) (by show k≤64; omega),Zv hbk0 (by omega),Zho hbk0 (by omega)]
  rw [← hprod,Int.mul_comm b,Int.mul_emod_mul_of_pos _ _ hp,Int.mul_comm]
theorem Zfe (k:Nat) {b:Int} (hk:k≤64) (hb:0≤b∧b<256):Zh .u64 (IntKind.wrap .u64 b) (k:Int)=b / ((2^k:Nat):Int):=by
  rw [Zv hb.1 (by omega),Zc8 .u64 hk]
theorem Zxs {b0 b1 b2 b3 b4 b5 b6:Int} (h0:0≤b0∧b0<256) (h1:0≤b1∧b1<256) (h2:0≤b2∧b2<256) (h3:0≤b3∧b3<256) (h4:0≤b4∧b4<256) (h5:0≤b5∧b5<256) (h6:0≤b6∧b6<256):Z4 .or .u64 (Z4 .or .u64 (Z4 .or .u64 (Z4 .or .u64 (Z4 .or .u64 (Z4 .or .u64 (Z4 .or .u64 (0) (Z4 .and .u64 (Zq .u64 (IntKind.wrap .u64 b0) 0) 2251799813685247)) (Z4 .and .u64 (Zq .u64 (IntKind.wrap .u64 b1) 8) 2251799813685247)) (Z4 .and .u64 (Zq .u64 (IntKind.wrap .u64 b2) 16) 2251799813685247)) (Z4 .and .u64 (Zq .u64 (IntKind.wrap .u64 b3) 24) 2251799813685247)) (Z4 .and .u64 (Zq .u64 (IntKind.wrap .u64 b4) 32) 2251799813685247)) (Z4 .and .u64 (Zq .u64 (IntKind.wrap .u64 b5) 40) 2251799813685247)) (Z4 .and .u64 (Zq .u64 (IntKind.wrap .u64 b6) 48) 2251799813685247)=0+b0*1+b1*256+b2*65536+b3*16777216+b4*4294967296+b5*1099511627776+b6%8*281474976710656:=by
  have p0:Z4 .and .u64 (Zq .u64 (IntKind.wrap .u64 b0) 0) 2251799813685247=b0*1:=by
    have:=Z13 0 (by decide) h0
    refine this.trans ?_
    rw [show ((2^(51-0):Nat):Int)=2251799813685248 from rfl,show ((2^0:Nat):Int)=1 from rfl]
    rw [Int.emod_eq_of_lt h0.1 (by omega)]
  rw [p0,Z0d 0 (x:=b0*1) (y:=0) (a:=b0) (by simp) (by omega) (by omega) (by show _<(1:Int); omega) (by omega)]
  have p1:Z4 .and .u64 (Zq .u64 (IntKind.wrap .u64 b1) 8) 2251799813685247=b1*256:=by
    have:=Z13 8 (by decide) h1
    refine this.trans ?_
    rw [show ((2^(51-8):Nat):Int)=8796093022208 from rfl,show ((2^8:Nat):Int)=256 from rfl]
    rw [Int.emod_eq_of_lt h1.1 (by omega)]
  rw [p1,Z0d 8 (x:=b1*256) (y:=0+b0*1) (a:=b1) (by simp) (by omega) (by omega) (by show _<(256:Int); omega) (by omega)]
  have p2:Z4 .and .u64 (Zq .u64 (IntKind.wrap .u64 b2) 16) 2251799813685247=b2*65536:=by
    have:=Z13 16 (by decide) h2
    refine this.trans ?_
    rw [show ((2^(51-16):Nat):Int)=34359738368 from rfl,show ((2^16:Nat):Int)=65536 from rfl]
    rw [Int.emod_eq_of_lt h2.1 (by omega)]
  rw [p2,Z0d 16 (x:=b2*65536) (y:=0+b0*1+b1*256) (a:=b2) (by simp) (by omega) (by omega) (by show _<(65536:Int); omega) (by omega)]
  have p3:Z4 .and .u64 (Zq .u64 (IntKind.wrap .u64 b3) 24) 2251799813685247=b3*16777216:=by
    have:=Z13 24 (by decide) h3
    refine this.trans ?_
    rw [show ((2^(51-24):Nat):Int)=134217728 from rfl,show ((2^24:Nat):Int)=16777216 from rfl]
    rw [Int.emod_eq_of_lt h3.1 (by omega)]
  rw [p3,Z0d 24 (x:=b3*16777216) (y:=0+b0*1+b1*256+b2*65536) (a:=b3) (by simp) (by omega) (by omega) (by show _<(16777216:Int); omega) (by omega)]
  have p4:Z4 .and .u64 (Zq .u64 (IntKind.wrap .u64 b4) 32) 2251799813685247=b4*4294967296:=by
    have:=Z13 32 (by decide) h4
    refine this.trans ?_
    rw [show ((2^(51-32):Nat):Int)=524288 from rfl,show ((2^32:Nat):Int)=4294967296 from rfl]
    rw [Int.emod_eq_of_lt h4.1 (by omega)]
  rw [p4,Z0d 32 (x:=b4*4294967296) (y:=0+b0*1+b1*256+b2*65536+b3*16777216) (a:=b4) (by simp) (by omega) (by omega) (by show _<(4294967296:Int); omega) (by omega)]
  have p5:Z4 .and .u64 (Zq .u64 (IntKind.wrap .u64 b5) 40) 2251799813685247=b5*1099511627776:=by
    have:=Z13 40 (by decide) h5
    refine this.trans ?_
    rw [show ((2^(51-40):Nat):Int)=2048 from rfl,show ((2^40:Nat):Int)=1099511627776 from rfl]
    rw [Int.emod_eq_of_lt h5.1 (by omega)]
  rw [p5,Z0d 40 (x:=b5*1099511627776) (y:=0+b0*1+b1*256+b2*65536+b3*16777216+b4*4294967296) (a:=b5) (by simp) (by omega) (by omega) (by show _<(1099511627776:Int); omega) (by omega)]
  have p6:Z4 .and .u64 (Zq .u64 (IntKind.wrap .u64 b6) 48) 2251799813685247=b6%8*281474976710656:=by
    have:=Z13 48 (by decide) h6
    refine this.trans ?_
    rw [show ((2^(51-48):Nat):Int)=8 from rfl,show ((2^48:Nat):Int)=281474976710656 from rfl]
  rw [p6,Z0d 48 (x:=b6%8*281474976710656) (y:=0+b0*1+b1*256+b2*65536+b3*16777216+b4*4294967296+b5*1099511627776) (a:=b6%8) (by simp) (by omega) (by omega) (by show _<(281474976710656:Int); omega) (by omega)]
theorem Zxt {b6 b7 b8 b9 b10 b11 b12:Int} (h6:0≤b6∧b6<256) (h7:0≤b7∧b7<256) (h8:0≤b8∧b8<256) (h9:0≤b9∧b9<256) (h10:0≤b10∧b10<256) (h11:0≤b11∧b11<256) (h12:0≤b12∧b12<256):Z4 .or .u64 (Z4 .or .u64 (Z4 .or .u64 (Z4 .or .u64 (Z4 .or .u64 (Z4 .or .u64 (Z4 .or .u64 (0) (Zh .u64 (IntKind.wrap .u64 b6) 3)) (Z4 .and .u64 (Zq .u64 (IntKind.wrap .u64 b7) 5) 2251799813685247)) (Z4 .and .u64 (Zq .u64 (IntKind.wrap .u64 b8) 13) 2251799813685247)) (Z4 .and .u64 (Zq .u64 (IntKind.wrap .u64 b9) 21) 2251799813685247)) (Z4 .and .u64 (Zq .u64 (IntKind.wrap .u64 b10) 29) 2251799813685247)) (Z4 .and .u64 (Zq .u64 (IntKind.wrap .u64 b11) 37) 2251799813685247)) (Z4 .and .u64 (Zq .u64 (IntKind.wrap .u64 b12) 45) 2251799813685247)=0+b6 / 8+b7*32+b8*8192+b9*2097152+b10*536870912+b11*137438953472+b12%64*35184372088832:=by
  have p0:Zh .u64 (IntKind.wrap .u64 b6) 3=b6 / 8:=by
    have:=Zfe 3 (by decide) h6
    refine this.trans ?_
    rw [show ((2^3:Nat):Int)=8 from rfl]
  rw [p0,Z0d 0 (x:=b6 / 8) (y:=0) (a:=b6 / 8) (by simp) (by omega) (by omega) (by show _<(1:Int); omega) (by omega)]
  have p1:Z4 .and .u64 (Zq .u64 (IntKind.wrap .u64 b7) 5) 2251799813685247=b7*32:=by
    have:=Z13 5 (by decide) h7
    refine this.trans ?_
    rw [show ((2^(51-5):Nat):Int)=70368744177664 from rfl,show ((2^5:Nat):Int)=32 from rfl]
    rw [Int.emod_eq_of_lt h7.1 (by omega)]
  rw [p1,Z0d 5 (x:=b7*32) (y:=0+b6 / 8) (a:=b7) (by simp) (by omega) (by omega) (by show _<(32:Int); omega) (by omega)]
  have p2:Z4 .and .u64 (Zq .u64 (IntKind.wrap .u64 b8) 13) 2251799813685247=b8*8192:=by
    have:=Z13 13 (by decide) h8
    refine this.trans ?_
    rw [show ((2^(51-13):Nat):Int)=274877906944 from rfl,show ((2^13:Nat):Int)=8192 from rfl]
    rw [Int.emod_eq_of_lt h8.1 (by omega)]
  rw [p2,Z0d 13 (x:=b8*8192) (y:=0+b6 / 8+b7*32) (a:=b8) (by simp) (by omega) (by omega) (by show _<(8192:Int); omega) (by omega)]
  have p3:Z4 .and .u64 (Zq .u64 (IntKind.wrap .u64 b9) 21) 2251799813685247=b9*2097152:=by
    have:=Z13 21 (by decide) h9
    refine this.trans ?_
    rw [show ((2^(51-21):Nat):Int)=1073741824 from rfl,show ((2^21:Nat):Int)=2097152 from rfl]
    rw [Int.emod_eq_of_lt h9.1 (by omega)]
  rw [p3,Z0d 21 (x:=b9*2097152) (y:=0+b6 / 8+b7*32+b8*8192) (a:=b9) (by simp) (by omega) (by omega) (by show _<(2097152:Int); omega) (by omega)]
  have p4:Z4 .and .u64 (Zq .u64 (IntKind.wrap .u64 b10) 29) 2251799813685247=b10*536870912:=by
    have:=Z13 29 (by decide) h10
    refine this.trans ?_
    rw [show ((2^(51-29):Nat):Int)=4194304 from rfl,show ((2^29:Nat):Int)=536870912 from rfl]
    rw [Int.emod_eq_of_lt h10.1 (by omega)]
  rw [p4,Z0d 29 (x:=b10*536870912) (y:=0+b6 / 8+b7*32+b8*8192+b9*2097152) (a:=b10) (by simp) (by omega) (by omega) (by show _<(536870912:Int); omega) (by omega)]
  have p5:Z4 .and .u64 (Zq .u64 (IntKind.wrap .u64 b11) 37) 2251799813685247=b11*137438953472:=by
    have:=Z13 37 (by decide) h11
    refine this.trans ?_
    rw [show ((2^(51-37):Nat):Int)=16384 from rfl,show ((2^37:Nat):Int)=137438953472 from rfl]
    rw [Int.emod_eq_of_lt h11.1 (by omega)]
  rw [p5,Z0d 37 (x:=b11*137438953472) (y:=0+b6 / 8+b7*32+b8*8192+b9*2097152+b10*536870912) (a:=b11) (by simp) (by omega) (by omega) (by show _<(137438953472:Int); omega) (by omega)]
  have p6:Z4 .and .u64 (Zq .u64 (IntKind.wrap .u64 b12) 45) 2251799813685247=b12%64*35184372088832:=by
    have:=Z13 45 (by decide) h12
    refine this.trans ?_
    rw [show ((2^(51-45):Nat):Int)=64 from rfl,show ((2^45:Nat):Int)=35184372088832 from rfl]
  rw [p6,Z0d 45 (x:=b12%64*35184372088832) (y:=0+b6 / 8+b7*32+b8*8192+b9*2097152+b10*536870912+b11*137438953472) (a:=b12%64) (by simp) (by omega) (by omega) (by show _<(35184372088832:Int); omega) (by omega)]
theorem Zxu {b12 b13 b14 b15 b16 b17 b18 b19:Int} (h12:0≤b12∧b12<256) (h13:0≤b13∧b13<256) (h14:0≤b14∧b14<256) (h15:0≤b15∧b15<256) (h16:0≤b16∧b16<256) (h17:0≤b17∧b17<256) (h18:0≤b18∧b18<256) (h19:0≤b19∧b19<256):Z4 .or .u64 (Z4 .or .u64 (Z4 .or .u64 (Z4 .or .u64 (Z4 .or .u64 (Z4 .or .u64 (Z4 .or .u64 (Z4 .or .u64 (0) (Zh .u64 (IntKind.wrap .u64 b12) 6)) (Z4 .and .u64 (Zq .u64 (IntKind.wrap .u64 b13) 2) 2251799813685247)) (Z4 .and .u64 (Zq .u64 (IntKind.wrap .u64 b14) 10) 2251799813685247)) (Z4 .and .u64 (Zq .u64 (IntKind.wrap .u64 b15) 18) 2251799813685247)) (Z4 .and .u64 (Zq .u64 (IntKind.wrap .u64 b16) 26) 2251799813685247)) (Z4 .and .u64 (Zq .u64 (IntKind.wrap .u64 b17) 34) 2251799813685247)) (Z4 .and .u64 (Zq .u64 (IntKind.wrap .u64 b18) 42) 2251799813685247)) (Z4 .and .u64 (Zq .u64 (IntKind.wrap .u64 b19) 50) 2251799813685247)=0+b12 / 64+b13*4+b14*1024+b15*262144+b16*67108864+b17*17179869184+b18*4398046511104+b19%2*1125899906842624:=by
  have p0:Zh .u64 (IntKind.wrap .u64 b12) 6=b12 / 64:=by
    have:=Zfe 6 (by decide) h12
    refine this.trans ?_
    rw [show ((2^6:Nat):Int)=64 from rfl]
  rw [p0,Z0d 0 (x:=b12 / 64) (y:=0) (a:=b12 / 64) (by simp) (by omega) (by omega) (by show _<(1:Int); omega) (by omega)]
  have p1:Z4 .and .u64 (Zq .u64 (IntKind.wrap .u64 b13) 2) 2251799813685247=b13*4:=by
    have:=Z13 2 (by decide) h13
    refine this.trans ?_
    rw [show ((2^(51-2):Nat):Int)=562949953421312 from rfl,show ((2^2:Nat):Int)=4 from rfl]
    rw [Int.emod_eq_of_lt h13.1 (by omega)]
  rw [p1,Z0d 2 (x:=b13*4) (y:=0+b12 / 64) (a:=b13) (by simp) (by omega) (by omega) (by show _<(4:Int); omega) (by omega)]
  have p2:Z4 .and .u64 (Zq .u64 (IntKind.wrap .u64 b14) 10) 2251799813685247=b14*1024:=by
    have:=Z13 10 (by decide) h14
    refine this.trans ?_
    rw [show ((2^(51-10):Nat):Int)=2199023255552 from rfl,show ((2^10:Nat):Int)=1024 from rfl]
    rw [Int.emod_eq_of_lt h14.1 (by omega)]
  rw [p2,Z0d 10 (x:=b14*1024) (y:=0+b12 / 64+b13*4) (a:=b14) (by simp) (by omega) (by omega) (by show _<(1024:Int); omega) (by omega)]
  have p3:Z4 .and .u64 (Zq .u64 (IntKind.wrap .u64 b15) 18) 2251799813685247=b15*262144:=by
    have:=Z13 18 (by decide) h15
    refine this.trans ?_
    rw [show ((2^(51-18):Nat):Int)=8589934592 from rfl,show ((2^18:Nat):Int)=262144 from rfl]
    rw [Int.emod_eq_of_lt h15.1 (by omega)]
  rw [p3,Z0d 18 (x:=b15*262144) (y:=0+b12 / 64+b13*4+b14*1024) (a:=b15) (by simp) (by omega) (by omega) (by show _<(262144:Int); omega) (by omega)]
  have p4:Z4 .and .u64 (Zq .u64 (IntKind.wrap .u64 b16) 26) 2251799813685247=b16*67108864:=by
    have:=Z13 26 (by decide) h16
    refine this.trans ?_
    rw [show ((2^(51-26):Nat):Int)=33554432 from rfl,show ((2^26:Nat):Int)=67108864 from rfl]
    rw [Int.emod_eq_of_lt h16.1 (by omega)]
  rw [p4,Z0d 26 (x:=b16*67108864) (y:=0+b12 / 64+b13*4+b14*1024+b15*262144) (a:=b16) (by simp) (by omega) (by omega) (by show _<(67108864:Int); omega) (by omega)]
  have p5:Z4 .and .u64 (Zq .u64 (IntKind.wrap .u64 b17) 34) 2251799813685247=b17*17179869184:=by
    have:=Z13 34 (by decide) h17
    refine this.trans ?_
    rw [show ((2^(51-34):Nat):Int)=131072 from rfl,show ((2^34:Nat):Int)=17179869184 from rfl]
    rw [Int.emod_eq_of_lt h17.1 (by omega)]
  rw [p5,Z0d 34 (x:=b17*17179869184) (y:=0+b12 / 64+b13*4+b14*1024+b15*262144+b16*67108864) (a:=b17) (by simp) (by omega) (by omega) (by show _<(17179869184:Int); omega) (by omega)]
  have p6:Z4 .and .u64 (Zq .u64 (IntKind.wrap .u64 b18) 42) 2251799813685247=b18*4398046511104:=by
    have:=Z13 42 (by decide) h18
    refine this.trans ?_
    rw [show ((2^(51-42):Nat):Int)=512 from rfl,show ((2^42:Nat):Int)=4398046511104 from rfl]
    rw [Int.emod_eq_of_lt h18.1 (by omega)]
  rw [p6,Z0d 42 (x:=b18*4398046511104) (y:=0+b12 / 64+b13*4+b14*1024+b15*262144+b16*67108864+b17*17179869184) (a:=b18) (by simp) (by omega) (by omega) (by show _<(4398046511104:Int); omega) (by omega)]
  have p7:Z4 .and .u64 (Zq .u64 (IntKind.wrap .u64 b19) 50) 2251799813685247=b19%2*1125899906842624:=by
    have:=Z13 50 (by decide) h19
    refine this.trans ?_
    rw [show ((2^(51-50):Nat):Int)=2 from rfl,show ((2^50:Nat):Int)=1125899906842624 from rfl]
  rw [p7,Z0d 50 (x:=b19%2*1125899906842624) (y:=0+b12 / 64+b13*4+b14*1024+b15*262144+b16*67108864+b17*17179869184+b18*4398046511104) (a:=b19%2) (by simp) (by omega) (by omega) (by show _<(1125899906842624:Int); omega) (by omega)]
theorem Zxv {b19 b20 b21 b22 b23 b24 b25:Int} (h19:0≤b19∧b19<256) (h20:0≤b20∧b20<256) (h21:0≤b21∧b21<256) (h22:0≤b22∧b22<256) (h23:0≤b23∧b23<256) (h24:0≤b24∧b24<256) (h25:0≤b25∧b25<256):Z4 .or .u64 (Z4 .or .u64 (Z4 .or .u64 (Z4 .or .u64 (Z4 .or .u64 (Z4 .or .u64 (Z4 .or .u64 (0) (Zh .u64 (IntKind.wrap .u64 b19) 1)) (Z4 .and .u64 (Zq .u64 (IntKind.wrap .u64 b20) 7) 2251799813685247)) (Z4 .and .u64 (Zq .u64 (IntKind.wrap .u64 b21) 15) 2251799813685247)) (Z4 .and .u64 (Zq .u64 (IntKind.wrap .u64 b22) 23) 2251799813685247)) (Z4 .and .u64 (Zq .u64 (IntKind.wrap .u64 b23) 31) 2251799813685247)) (Z4 .and .u64 (Zq .u64 (IntKind.wrap .u64 b24) 39) 2251799813685247)) (Z4 .and .u64 (Zq .u64 (IntKind.wrap .u64 b25) 47) 2251799813685247)=0+b19 / 2+b20*128+b21*32768+b22*8388608+b23*2147483648+b24*549755813888+b25%16*140737488355328:=by
  have p0:Zh .u64 (IntKind.wrap .u64 b19) 1=b19 / 2:=by
    have:=Zfe 1 (by decide) h19
    refine this.trans ?_
    rw [show ((2^1:Nat):Int)=2 from rfl]
  rw [p0,Z0d 0 (x:=b19 / 2) (y:=0) (a:=b19 / 2) (by simp) (by omega) (by omega) (by show _<(1:Int); omega) (by omega)]
  have p1:Z4 .and .u64 (Zq .u64 (IntKind.wrap .u64 b20) 7) 2251799813685247=b20*128:=by
    have:=Z13 7 (by decide) h20
    refine this.trans ?_
    rw [show ((2^(51-7):Nat):Int)=17592186044416 from rfl,show ((2^7:Nat):Int)=128 from rfl]
    rw [Int.emod_eq_of_lt h20.1 (by omega)]
  rw [p1,Z0d 7 (x:=b20*128) (y:=0+b19 / 2) (a:=b20) (by simp) (by omega) (by omega) (by show _<(128:Int); omega) (by omega)]
  have p2:Z4 .and .u64 (Zq .u64 (IntKind.wrap .u64 b21) 15) 2251799813685247=b21*32768:=by
    have:=Z13 15 (by decide) h21
    refine this.trans ?_
    rw [show ((2^(51-15):Nat):Int)=68719476736 from rfl,show ((2^15:Nat):Int)=32768 from rfl]
    rw [Int.emod_eq_of_lt h21.1 (by omega)]
  rw [p2,Z0d 15 (x:=b21*32768) (y:=0+b19 / 2+b20*128) (a:=b21) (by simp) (by omega) (by omega) (by show _<(32768:Int); omega) (by omega)]
  have p3:Z4 .and .u64 (Zq .u64 (IntKind.wrap .u64 b22) 23) 2251799813685247=b22*8388608:=by
    have:=Z13 23 (by decide) h22
    refine this.trans ?_
    rw [show ((2^(51-23):Nat):Int)=268435456 from rfl,show ((2^23:Nat):Int)=8388608 from rfl]
    rw [Int.emod_eq_of_lt h22.1 (by omega)]
  rw [p3,Z0d 23 (x:=b22*8388608) (y:=0+b19 / 2+b20*128+b21*32768) (a:=b22) (by simp) (by omega) (by omega) (by show _<(8388608:Int); omega) (by omega)]
  have p4:Z4 .and .u64 (Zq .u64 (IntKind.wrap .u64 b23) 31) 2251799813685247=b23*2147483648:=by
    have:=Z13 31 (by decide) h23
    refine this.trans ?_
    rw [show ((2^(51-31):Nat):Int)=1048576 from rfl,show ((2^31:Nat):Int)=2147483648 from rfl]
    rw [Int.emod_eq_of_lt h23.1 (by omega)]
  rw [p4,Z0d 31 (x:=b23*2147483648) (y:=0+b19 / 2+b20*128+b21*32768+b22*8388608) (a:=b23) (by simp) (by omega) (by omega) (by show _<(2147483648:Int); omega) (by omega)]
  have p5:Z4 .and .u64 (Zq .u64 (IntKind.wrap .u64 b24) 39) 2251799813685247=b24*549755813888:=by
    have:=Z13 39 (by decide) h24
    refine this.trans ?_
    rw [show ((2^(51-39):Nat):Int)=4096 from rfl,show ((2^39:Nat):Int)=549755813888 from rfl]
    rw [Int.emod_eq_of_lt h24.1 (by omega)]
  rw [p5,Z0d 39 (x:=b24*549755813888) (y:=0+b19 / 2+b20*128+b21*32768+b22*8388608+b23*2147483648) (a:=b24) (by simp) (by omega) (by omega) (by show _<(549755813888:Int); omega) (by omega)]
  have p6:Z4 .and .u64 (Zq .u64 (IntKind.wrap .u64 b25) 47) 2251799813685247=b25%16*140737488355328:=by
    have:=Z13 47 (by decide) h25
    refine this.trans ?_
    rw [show ((2^(51-47):Nat):Int)=16 from rfl,show ((2^47:Nat):Int)=140737488355328 from rfl]
  rw [p6,Z0d 47 (x:=b25%16*140737488355328) (y:=0+b19 / 2+b20*128+b21*32768+b22*8388608+b23*2147483648+b24*549755813888) (a:=b25%16) (by simp) (by omega) (by omega) (by show _<(140737488355328:Int); omega) (by omega)]
theorem Zxw {b25 b26 b27 b28 b29 b30 b31:Int} (h25:0≤b25∧b25<256) (h26:0≤b26∧b26<256) (h27:0≤b27∧b27<256) (h28:0≤b28∧b28<256) (h29:0≤b29∧b29<256) (h30:0≤b30∧b30<256) (h31:0≤b31∧b31<256):Z4 .or .u64 (Z4 .or .u64 (Z4 .or .u64 (Z4 .or .u64 (Z4 .or .u64 (Z4 .or .u64 (Z4 .or .u64 (0) (Zh .u64 (IntKind.wrap .u64 b25) 4)) (Z4 .and .u64 (Zq .u64 (IntKind.wrap .u64 b26) 4) 2251799813685247)) (Z4 .and .u64 (Zq .u64 (IntKind.wrap .u64 b27) 12) 2251799813685247)) (Z4 .and .u64 (Zq .u64 (IntKind.wrap .u64 b28) 20) 2251799813685247)) (Z4 .and .u64 (Zq .u64 (IntKind.wrap .u64 b29) 28) 2251799813685247)) (Z4 .and .u64 (Zq .u64 (IntKind.wrap .u64 b30) 36) 2251799813685247)) (Z4 .and .u64 (Zq .u64 (IntKind.wrap .u64 b31) 44) 2251799813685247)=0+b25 / 16+b26*16+b27*4096+b28*1048576+b29*268435456+b30*68719476736+b31%128*17592186044416:=by
  have p0:Zh .u64 (IntKind.wrap .u64 b25) 4=b25 / 16:=by
    have:=Zfe 4 (by decide) h25
    refine this.trans ?_
    rw [show ((2^4:Nat):Int)=16 from rfl]
  rw [p0,Z0d 0 (x:=b25 / 16) (y:=0) (a:=b25 / 16) (by simp) (by omega) (by omega) (by show _<(1:Int); omega) (by omega)]
  have p1:Z4 .and .u64 (Zq .u64 (IntKind.wrap .u64 b26) 4) 2251799813685247=b26*16:=by
    have:=Z13 4 (by decide) h26
    refine this.trans ?_
    rw [show ((2^(51-4):Nat):Int)=140737488355328 from rfl,show ((2^4:Nat):Int)=16 from rfl]
    rw [Int.emod_eq_of_lt h26.1 (by omega)]
  rw [p1,Z0d 4 (x:=b26*16) (y:=0+b25 / 16) (a:=b26) (by simp) (by omega) (by omega) (by show _<(16:Int); omega) (by omega)]
  have p2:Z4 .and .u64 (Zq .u64 (IntKind.wrap .u64 b27) 12) 2251799813685247=b27*4096:=by
    have:=Z13 12 (by decide) h27
    refine this.trans ?_
    rw [show ((2^(51-12):Nat):Int)=549755813888 from rfl,show ((2^12:Nat):Int)=4096 from rfl]
    rw [Int.emod_eq_of_lt h27.1 (by omega)]
  rw [p2,Z0d 12 (x:=b27*4096) (y:=0+b25 / 16+b26*16) (a:=b27) (by simp) (by omega) (by omega) (by show _<(4096:Int); omega) (by omega)]
  have p3:Z4 .and .u64 (Zq .u64 (IntKind.wrap .u64 b28) 20) 2251799813685247=b28*1048576:=by
    have:=Z13 20 (by decide) h28
    refine this.trans ?_
    rw [show ((2^(51-20):Nat):Int)=2147483648 from rfl,show ((2^20:Nat):Int)=1048576 from rfl]
    rw [Int.emod_eq_of_lt h28.1 (by omega)]
  rw [p3,Z0d 20 (x:=b28*1048576) (y:=0+b25 / 16+b26*16+b27*4096) (a:=b28) (by simp) (by omega) (by omega) (by show _<(1048576:Int); omega) (by omega)]
  have p4:Z4 .and .u64 (Zq .u64 (IntKind.wrap .u64 b29) 28) 2251799813685247=b29*268435456:=by
    have:=Z13 28 (by decide) h29
    refine this.trans ?_
    rw [show ((2^(51-28):Nat):Int)=8388608 from rfl,show ((2^28:Nat):Int)=268435456 from rfl]
    rw [Int.emod_eq_of_lt h29.1 (by omega)]
  rw [p4,Z0d 28 (x:=b29*268435456) (y:=0+b25 / 16+b26*16+b27*4096+b28*1048576) (a:=b29) (by simp) (by omega) (by omega) (by show _<(268435456:Int); omega) (by omega)]
  have p5:Z4 .and .u64 (Zq .u64 (IntKind.wrap .u64 b30) 36) 2251799813685247=b30*68719476736:=by
    have:=Z13 36 (by decide) h30
    refine this.trans ?_
    rw [show ((2^(51-36):Nat):Int)=32768 from rfl,show ((2^36:Nat):Int)=68719476736 from rfl]
    rw [Int.emod_eq_of_lt h30.1 (by omega)]
  rw [p5,Z0d 36 (x:=b30*68719476736) (y:=0+b25 / 16+b26*16+b27*4096+b28*1048576+b29*268435456) (a:=b30) (by simp) (by omega) (by omega) (by show _<(68719476736:Int); omega) (by omega)]
  have p6:Z4 .and .u64 (Zq .u64 (IntKind.wrap .u64 b31) 44) 2251799813685247=b31%128*17592186044416:=by
    have:=Z13 44 (by decide) h31
    refine this.trans ?_
    rw [show ((2^(51-44):Nat):Int)=128 from rfl,show ((2^44:Nat):Int)=17592186044416 from rfl]
  rw [p6,Z0d 44 (x:=b31%128*17592186044416) (y:=0+b25 / 16+b26*16+b27*4096+b28*1048576+b29*268435456+b30*68719476736) (a:=b31%128) (by simp) (by omega) (by omega) (by show _<(17592186044416:Int); omega) (by omega)]
def Zd1 (x:List Int):Int:=x.getD 0 0+x.getD 1 0*256+x.getD 2 0*65536+x.getD 3 0*16777216+x.getD 4 0*4294967296+x.getD 5 0*1099511627776+x.getD 6 0*281474976710656+x.getD 7 0*72057594037927936+x.getD 8 0*18446744073709551616+x.getD 9 0*4722366482869645213696+x.getD 10 0*1208925819614629174706176+x.getD 11 0*309485009821345068724781056+x.getD 12 0*79228162514264337593543950336+x.getD 13 0*20282409603651670423947251286016+x.getD 14 0*5192296858534827628530496329220096+x.getD 15 0*1329227995784915872903807060280344576+x.getD 16 0*340282366920938463463374607431768211456+x.getD 17 0*87112285931760246646623899502532662132736+x.getD 18 0*22300745198530623141535718272648361505980416+x.getD 19 0*5708990770823839524233143877797980545530986496+x.getD 20 0*1461501637330902918203684832716283019655932542976+x.getD 21 0*374144419156711147060143317175368453031918731001856+x.getD 22 0*95780971304118053647396689196894323976171195136475136+x.getD 23 0*24519928653854221733733552434404946937899825954937634816+x.getD 24 0*6277101735386680763835789423207666416102355444464034512896+x.getD 25 0*1606938044258990275541962092341162602522202993782792835301376+x.getD 26 0*411376139330301510538742295639337626245683966408394965837152256+x.getD 27 0*105312291668557186697918027683670432318895095400549111254310977536+x.getD 28 0*26959946667150639794667015087019630673637144422540572481103610249216+x.getD 29 0*6901746346790563787434755862277025452451108972170386555162524223799296+x.getD 30 0*1766847064778384329583297500742918515827483896875618958121606201292619776+x.getD 31 0%128*452312848583266388373324160190187140051835877600158453279131187530910662656
theorem Z9s {x:List Int} (h:Byt x):Z26 x=some (fe (Zd1 x)):=by
  rw [Z26,Z2f,Zx4]
  have e31:Z4 .and .u8 (x.getD 31 0) 127=x.getD 31 0%128:=Zdj 7 (by decide) (by decide) (h 31).1 (h 31).2
  have h31:0≤x.getD 31 0%128∧x.getD 31 0%128<256:=by have:=h 31; omega
  rw [e31,Zxs (h 0) (h 1) (h 2) (h 3) (h 4) (h 5) (h 6),Zxt (h 6) (h 7) (h 8) (h 9) (h 10) (h 11) (h 12),Zxu (h 12) (h 13) (h 14) (h 15) (h 16) (h 17) (h 18) (h 19),Zxv (h 19) (h 20) (h 21) (h 22) (h 23) (h 24) (h 25),Zxw (h 25) (h 26) (h 27) (h 28) (h 29) (h 30) h31]
  have g0:=h 0
  have g1:=h 1
  have g2:=h 2
  have g3:=h 3
  have g4:=h 4
  have g5:=h 5
  have g6:=h 6
  have g7:=h 7
  have g8:=h 8
  have g9:=h 9
  have g10:=h 10
  have g11:=h 11
  have g12:=h 12
  have g13:=h 13
  have g14:=h 14
  have g15:=h 15
  have g16:=h 16
  have g17:=h 17
  have g18:=h 18
  have g19:=h 19
  have g20:=h 20
  have g21:=h 21
  have g22:=h 22
  have g23:=h 23
  have g24:=h 24
  have g25:=h 25
  have g26:=h 26
  have g27:=h 27
  have g28:=h 28
  have g29:=h 29
  have g30:=h 30
  have g31:=h 31
  rw [Z3 (Z4e (U5.mk5 (by omega) (by omega) (by omega) (by omega) (by omega)))]
  unfold Zgm fe
  congr 3
  simp only [Z58,Zd1,List.getD_cons_zero,List.getD_cons_succ]
  omega
theorem Zeb (a:Int):a%PP%PP=a%PP:=Int.emod_emod_of_dvd _ (Int.dvd_refl _)
theorem Zgf (a b:Int):Z09 (fe a) (fe b)=some (fe (a*b)):=by
  rw [Zou (Zad a) (Zad b),Z41,Z41,← Int.mul_emod]; rfl
theorem Zbu (a:Int):Z0u (fe a)=some (fe (a*a)):=by
  rw [Zjy (Zad a),Z41,← Int.mul_emod]; rfl
theorem Zqf (a b:Int):Z1v (fe a) (fe b)=some (fe (a+b)):=by
  rw [Zsm (Zad a) (Zad b),Z41,Z41,Zcg]
  exact (Int.add_emod _ _ _).symm
theorem Zur (a b:Int):Z3t (fe a) (fe b)=some (fe (a-b)):=by
  rw [Z027 (Zad a) (Zad b),Z41,Z41,Zcg]
  exact (Int.sub_emod _ _ _).symm
theorem Zwc (a:Int):Z4a (fe a)=some (fe (-a)):=by
  rw [Zsz (Zad a),Z41,Zcg]
  have h:=Int.sub_emod 0 a PP
  simp only [Int.zero_sub] at h
  rw [h]
  simp
structure Q4 where
  x:Int
  y:Int
  z:Int
  t:Int
  deriving DecidableEq
def pt (q:Q4):Z9:=⟨fe q.x,fe q.y,fe q.z,fe q.t⟩
def Zyb (q:Q4):Q4:=⟨q.x%PP,q.y%PP,q.z%PP,q.t%PP⟩
theorem Zt6 (q:Q4):pt (Zyb q)=pt q:=by simp only [pt,Zyb,Zst]
def D2:Int:=16295367250680780974490674513165176452449235426866156013048779062215315747161
def Zi9 (e f g h:Int):Q4:=⟨e*f,g*h,f*g,e*h⟩
def qadd (p q:Q4):Q4 :=
  let a:=(p.y-p.x)*(q.y-q.x)
  let b:=(p.y+p.x)*(q.y+q.x)
  let c:=p.t*D2*q.t
  let d:=(p.z+p.z)*q.z
  Zi9 (b-a) (d-c) (d+c) (b+a)
def qdbl (p:Q4):Q4 :=
  let a:=p.x*p.x
  let b:=p.y*p.y
  let z:=p.z*p.z
  let h:=a+b
  let e:=h-(p.x+p.y)*(p.x+p.y)
  let g:=a-b
  Zi9 e (z+z+g) g h
theorem Ziv (e f g h:Int):Z6l (fe e) (fe f) (fe g) (fe h)=some (pt (Zi9 e f g h)):=by
  rw [Z6l,Z3 (Zgf e f),Z3 (Zgf g h),Z3 (Zgf f g),Z3 (Zgf e h)]; rfl
theorem Zmq:Z72=some (fe D2):=by
  rw [Z72,Ze]
  congr 1
theorem Zuc (p q:Q4):Z6z (pt p) (pt q)=some (pt (qadd p q)):=by
  rw [Z6z]
  show opt (Z3t (fe p.y) (fe p.x)) _=_
  rw [Z3 (Zur p.y p.x)]
  show opt (Z3t (fe q.y) (fe q.x)) _=_
  rw [Z3 (Zur q.y q.x),Z3 (Zgf _ _)]
  show opt (Z1v (fe p.y) (fe p.x)) _=_
  rw [Z3 (Zqf p.y p.x)]
  show opt (Z1v (fe q.y) (fe q.x)) _=_
  rw [Z3 (Zqf q.y q.x),Z3 (Zgf _ _),Z3 Zmq]
  show opt (Z09 (fe p.t) (fe D2)) _=_
  rw [Z3 (Zgf _ _)]
  show opt (Z09 (fe (p.t*D2)) (fe q.t)) _=_
  rw [Z3 (Zgf _ _)]
  show opt (Z1v (fe p.z) (fe p.z)) _=_
  rw [Z3 (Zqf _ _)]
  show opt (Z09 (fe (p.z+p.z)) (fe q.z)) _=_
  rw [Z3 (Zgf _ _),Z3 (Zur _ _),Z3 (Zur _ _),Z3 (Zqf _ _),Z3 (Zqf _ _),Z3 (Ziv _ _ _ _)]
  rfl
theorem Zue (p:Q4):Z5f (pt p)=some (pt (qdbl p)):=by
  rw [Z5f]
  show opt (Z0u (fe p.x)) _=_
  rw [Z3 (Zbu _)]
  show opt (Z0u (fe p.y)) _=_
  rw [Z3 (Zbu _)]
  show opt (Z0u (fe p.z)) _=_
  rw [Z3 (Zbu _),Z3 (Zqf _ _)]
  show opt (Z1v (fe p.x) (fe p.y)) _=_
  rw [Z3 (Zqf _ _),Z3 (Zbu _),Z3 (Zur _ _),Z3 (Zur _ _),Z3 (Zqf _ _),Z3 (Zqf _ _),Z3 (Ziv _ _ _ _)]
  rfl
def Zku:Q4:=⟨0,1,1,0⟩
theorem Zil:Z6m=some (fe 1):=by rw [Z6m,Ze]; congr 1
theorem Zl7:Z7p=some (pt Zku):=by
  rw [Z7p,Z3 Zil,Z3 Zil]
  have:(List.replicate 5 0:List Int)=fe 0:=by decide
  rw [this]; rfl
theorem Zo5 (p:Q4):Z99 (pt p)=some (pt ⟨-p.x,p.y,p.z,-p.t⟩):=by
  rw [Z99]
  show opt (Z4a (fe p.x)) _=_
  rw [Z3 (Zwc _)]
  show opt (Z4a (fe p.t)) _=_
  rw [Z3 (Zwc _)]
  rfl
def Zf5 (p q:Q4):Q4:=Zyb (qadd p q)
def Z7w (p:Q4):Q4:=Zyb (qdbl p)
theorem Zfc (p q:Q4):Z6z (pt p) (pt q)=some (pt (Zf5 p q)):=by rw [Zuc]; unfold Zf5; rw [Zt6]
theorem Zle (p:Q4):Z5f (pt p)=some (pt (Z7w p)):=by rw [Zue]; unfold Z7w; rw [Zt6]
def tab (p:Q4):Nat→Q4
  | 0=>Zku
  | i+1=>Zf5 (tab p i) p
def Zkc (f:Nat→Z9) (i:Nat):List Z9:=(List.range 16).map fun j=>if j≤i then f j else Z0g
theorem Zsa (f:Nat→Z9) {i:Nat} (hi:i<15):Zf7 Z0g (Zkc f i) (i+1) (f (i+1))=Zkc f (i+1):=by
  rw [Zax (by simp [Zkc]; omega)]
  apply List.ext_getElem
  · simp [Zkc]
  · intro j h1 h2
    simp only [Zkc,List.getElem_set,List.getElem_map,List.getElem_range]
    by_cases hj:i+1=j
    · subst hj; simp
    · rw [if_neg hj]
      by_cases h:j≤i
      · rw [if_pos h,if_pos (by omega)]
      · rw [if_neg h,if_neg (by omega)]
theorem Zfj (f:Nat→Z9) {i j:Nat} (hj:j≤i) (hi:i<16):(Zkc f i).getD j Z0g=f j:=by
  simp only [Zkc,List.getD,List.getElem?_map,List.getElem?_range (show j<16 by omega),Option.map_some,Option.getD_some,if_pos hj]
theorem Zn2 (p:Q4) {kk:List Z9→Option (List Z9)} {k':Int→List Z9→Option (List Z9)} {i:Nat} (hi:i<15) :
    Z2u (pt p) kk k' (i:Int) (Zkc (fun j=>pt (tab p j)) i)=k' ((i+1:Nat):Int) (Zkc (fun j=>pt (tab p j)) (i+1)):=by
  rw [Z2u,Z21 (by simp; omega)]
  simp only [Ze]
  rw [Zr (by omega) (by omega),Z05 (Z2j (by omega) (by omega)),Int.toNat_natCast,Zfj _ (Nat.le_refl i) (by omega),Z3 (Zfc _ _),Z05 (Z2j (by omega) (by omega))]
  have e:((i:Int)+1).toNat=i+1:=by omega
  have e2:(i:Int)+1=((i+1:Nat):Int):=by omega
  rw [e]
  have:=Zsa (fun j=>pt (tab p j)) hi
  rw [show pt (Zf5 (tab p i) p)=pt (tab p (i+1)) from rfl,this,e2]
theorem Zje (p:Q4) : ∀ (k n:Nat),k≤15→Z1l (pt p) some (n+1+k) ((15-k:Nat):Int) (Zkc (fun j=>pt (tab p j)) (15-k))=some (Zkc (fun j=>pt (tab p j)) 15)
  | 0,n,_=>by
    rw [show n+1+0=n+1 from rfl,Z1l,Z2u,Z1h (by decide)]
  | k+1,n,hk=>by
    have ih:=Zje p k n (by omega)
    rw [← Nat.add_assoc,Z1l,Zn2 p (by omega)]
    rw [show 15-(k+1)+1=15-k by omega]
    exact ih
theorem Zc0 (p:Q4):Z3d (pt p)=some (Zkc (fun j=>pt (tab p j)) 15):=by
  rw [Z3d,Z3 Zl7,Ze,Z2f]
  obtain ⟨n,hn⟩ : ∃ n,big=n+1+15:=⟨18446744073709551600,Z47⟩
  have:=Zje p 15 n (by decide)
  rw [← hn] at this
  have e:Zf7 Z0g (List.replicate 16 Z0g) 0 (pt Zku)=Zkc (fun j=>pt (tab p j)) (15-15):=by
    rw [Zax (by simp)]
    rfl
  rw [e]
  exact this
def nib (k:List Int) (i:Nat):Int:=if i%2=0 then k.getD (31-i / 2) 0 / 16%16 else k.getD (31-i / 2) 0%16
theorem Zfv {k:List Int} (hk:Byt k) {i:Nat} (hi:i<64):Z5g k (i:Int)=some (nib k i):=by
  rw [Z5g]
  simp only [Ze]
  have h1:IntKind.wrap .i64 (Int.tdiv (i:Int) 2)=((i / 2:Nat):Int):=by
    rw [Int.tdiv_eq_ediv_of_nonneg (by omega),Zr (by omega) (by omega)]; omega
  have h2:Int.tmod (i:Int) 2=((i%2:Nat):Int):=by
    rw [Int.tmod_eq_emod_of_nonneg (by omega)]; omega
  rw [h1,h2,Zr (x:=31-((i / 2:Nat):Int)) (by omega) (by omega),Z05 (Z2j (by omega) (by omega))]
  have h3:(31-((i / 2:Nat):Int)).toNat=31-i / 2:=by omega
  rw [h3]
  have hb:=hk (31-i / 2)
  rw [Zr (x:=1-((i%2:Nat):Int)) (by omega) (by omega),Zr (by omega) (by omega)]
  rcases Nat.mod_two_eq_zero_or_one i with h | h
  · rw [h,Z05 (by decide)]
    have e:Zh .u8 (k.getD (31-i / 2) 0) (4*(1-((0:Nat):Int)))=k.getD (31-i / 2) 0 / 16:=Zc8 .u8 (n:=4) (by decide)
    rw [e]
    have e2:Z4 .and .u8 (k.getD (31-i / 2) 0 / 16) 15=k.getD (31-i / 2) 0 / 16%16:=Zdj 4 (by decide) (by decide) (by omega) (by omega)
    rw [e2,nib,if_pos h]
  · rw [h,Z05 (by decide)]
    have e:Zh .u8 (k.getD (31-i / 2) 0) (4*(1-((1:Nat):Int)))=k.getD (31-i / 2) 0:=by
      have:=Zc8 .u8 (x:=k.getD (31-i / 2) 0) (n:=0) (by decide)
      simpa using this
    rw [e]
    have e2:Z4 .and .u8 (k.getD (31-i / 2) 0) 15=k.getD (31-i / 2) 0%16:=Zdj 4 (by decide) (by decide) (by omega) (by omega)
    rw [e2,nib,if_neg (by omega)]
theorem Zkq (k:List Int) (i:Nat):0≤nib k i∧nib k i<16:=by unfold nib; split <;> omega
def Zgl (q:Q4):Q4:=Z7w (Z7w (Z7w (Z7w q)))
def Zyc (k:List Int) (p:Q4) (q:Q4) (i:Nat):Q4:=Zf5 (Zgl q) (tab p (nib k i).toNat)
def Zh7 (k:List Int) (p:Q4):Nat→Q4
  | 0=>Zku
  | i+1=>Zyc k p (Zh7 k p i) i
theorem Zn1 (q:Q4) {kk:List Int→List Int→List Int→List Int→Option Z9} :
    Z36 kk big 0 (pt q).gX (pt q).gY (pt q).gZ (pt q).gT=kk (pt (Zgl q)).gX (pt (Zgl q)).gY (pt (Zgl q)).gZ (pt (Zgl q)).gT:=by
  obtain ⟨n,hn⟩ : ∃ n,big=n+1+1+1+1+1:=⟨18446744073709551611,Z47⟩
  have step : ∀ (n j:Nat) (q:Q4),j<4→Z36 kk (n+1) (j:Int) (pt q).gX (pt q).gY (pt q).gZ (pt q).gT =
      Z36 kk n ((j+1:Nat):Int) (pt (Z7w q)).gX (pt (Z7w q)).gY (pt (Z7w q)).gZ (pt (Z7w q)).gT:=by
    intro n j q hj
    rw [Z36,Z8e,Z21 (by simp; omega)]
    have:=Zle q
    rw [show (⟨(pt q).gX,(pt q).gY,(pt q).gZ,(pt q).gT⟩:Z9)=pt q from rfl,Z3 this]
    simp only [Ze]
    rw [Zr (by omega) (by omega)]
    rfl
  rw [hn]
  have s0:=step (n+1+1+1+1) 0 q (by decide)
  have s1:=step (n+1+1+1) 1 (Z7w q) (by decide)
  have s2:=step (n+1+1) 2 (Z7w (Z7w q)) (by decide)
  have s3:=step (n+1) 3 (Z7w (Z7w (Z7w q))) (by decide)
  refine s0.trans (s1.trans (s2.trans (s3.trans ?_)))
  rw [Z36,Z8e,Z1h (by decide)]
  rfl
theorem Zh4 {k:List Int} (hk:Byt k) (p:Q4) : ∀ (j n:Nat),j≤64→Z4j k (Zkc (fun j=>pt (tab p j)) 15) (fun a b c d=>some ⟨a,b,c,d⟩) (n+1+j) ((64-j:Nat):Int) (pt (Zh7 k p (64-j))).gX (pt (Zh7 k p (64-j))).gY (pt (Zh7 k p (64-j))).gZ (pt (Zh7 k p (64-j))).gT=some (pt (Zh7 k p 64))
  | 0,n,_=>by
    rw [show n+1+0=n+1 from rfl,Z4j,Z8d,Z1h (by decide)]
  | j+1,n,hj=>by
    have ih:=Zh4 hk p j n (by omega)
    have hr:=Zkq k (64-(j+1))
    rw [← Nat.add_assoc,Z4j,Z8d,Z21 (by simp; omega),Z2f,Zn1]
    rw [Z3 (Zfv hk (by omega)),Z05 (Z2j hr.1 hr.2),Ze,Zfj _ (by omega) (by decide)]
    have hadd:=Zfc (Zgl (Zh7 k p (64-(j+1)))) (tab p (nib k (64-(j+1))).toNat)
    rw [show (⟨(pt (Zgl (Zh7 k p (64-(j+1))))).gX,(pt (Zgl (Zh7 k p (64-(j+1))))).gY,(pt (Zgl (Zh7 k p (64-(j+1))))).gZ,(pt (Zgl (Zh7 k p (64-(j+1))))).gT⟩:Z9)=pt (Zgl (Zh7 k p (64-(j+1)))) from rfl,Z3 hadd,Ze,Zr (by omega) (by omega)]
    have ei:((64-(j+1):Nat):Int)+1=((64-(j+1)+1:Nat):Int):=by omega
    rw [ei]
    have e:64-(j+1)+1=64-j:=by omega
    rw [e]
    have e2:Zf5 (Zgl (Zh7 k p (64-(j+1)))) (tab p (nib k (64-(j+1))).toNat)=Zh7 k p (64-j):=by rw [← e]; rfl
    rw [e2]
    exact ih
theorem Zuf {k:List Int} (hk:Byt k) (p:Q4):Zbr k (pt p)=some (pt (Zh7 k p 64)):=by
  rw [Zbr,Z3 (Zc0 p),Z3 Zl7,Z2f]
  obtain ⟨n,hn⟩ : ∃ n,big=n+1+64:=⟨18446744073709551551,Z47⟩
  have:=Zh4 hk p 64 n (by decide)
  rw [← hn] at this
  exact this
theorem byt_of {l:List Int} (h : ∀ x∈l,0≤x∧x<256):Byt l:=by
  intro i
  simp only [List.getD]
  cases hi:l[i]? with
  | none=>simp
  | some v=>exact h v (List.mem_of_getElem? hi)
def BX:Int:=15112221349535400772501151409588531511454012693041857206046113283949847762202
def BY:Int:=46316835694926478169428394003475163141307993866256225615783033603165251855960
def Zi8:Q4:=⟨BX,BY,1,BX*BY⟩
theorem Zpy (k:List Int→Option Z9):Z4z k big 0 [88,0,0,0,0,0,0,0,0,0,0,0,0,0,0,0,0,0,0,0,0,0,0,0,0,0,0,0,0,0,0,0]=k [88,102,102,102,102,102,102,102,102,102,102,102,102,102,102,102,102,102,102,102,102,102,102,102,102,102,102,102,102,102,102,102]:=by kernel_rfl
theorem Zma:Z7r=some (pt Zi8):=by
  rw [Z7r,Ze,Z3 (Z9s (byt_of (by decide))),Ze,Z2f,Zpy,Z3 (Z9s (byt_of (by decide))),Z3 Zil]
  have e1:Zd1 [26,213,37,143,96,45,86,201,178,167,37,149,96,199,44,105,92,220,214,253,49,226,164,192,254,83,110,205,211,54,105,33]=BX:=by decide
  have e2:Zd1 [88,102,102,102,102,102,102,102,102,102,102,102,102,102,102,102,102,102,102,102,102,102,102,102,102,102,102,102,102,102,102,102]=BY:=by decide
  rw [e1,e2,Z3 (Zgf _ _)]
  rfl
theorem Zn0 {k:List Int} (hk:Byt k):Z3q k=some (pt (Zh7 k Zi8 64)):=by
  rw [Z3q,Z3 Zma,Z3 (Zuf hk _)]
def einv:List Int:=[235,255,255,255,255,255,255,255,255,255,255,255,255,255,255,255,255,255,255,255,255,255,255,255,255,255,255,255,255,255,255,127]
theorem Zpa:Z5k 235 127=some einv:=by kernel_rfl
theorem Zqw:Byt einv:=byt_of (by decide)
def Zof (a:Int):Int:=pw (a%PP) einv 256
theorem Zsu {n:Int} (h:0≤n∧n<PP):Zec n=fe n:=(Zqz h.1 h.2).symm
theorem Zxb (a:Int):Z6o (fe a)=some (fe (Zof a)):=by
  rw [Z6o,Z3 Zpa,Z3 (Zt5 (Zad _) Zqw),Z41,Zsu (Zpe _ _ _)]
  rfl
def Zcu (x y:Int):List Int:=if x%PP%2=1 then Z4h (byt (y%PP)) 31 (Z4 .or .u8 ((byt (y%PP)).getD 31 0) 128) else byt (y%PP)
def encQ (q:Q4):List Int:=Zcu (q.x*Zof q.z) (q.y*Zof q.z)
theorem Zj2 (q:Q4):Z3p (pt q)=some (encQ q):=by
  rw [Z3p]
  show opt (Z6o (fe q.z)) _=_
  rw [Z3 (Zxb _)]
  show opt (Z09 (fe q.y) (fe (Zof q.z))) _=_
  rw [Z3 (Zgf _ _),Z3 (Zlc (Zad _))]
  show opt (Z09 (fe q.x) (fe (Zof q.z))) _=_
  rw [Z3 (Zgf _ _),Z3 (Zln (Zad _)),Z2f,Z41,Z41]
  simp only [Ze,Zeb]
  unfold encQ Zcu
  by_cases h:q.x*Zof q.z%PP%2=1
  · rw [Z21 (by rw [h]; rfl),if_pos h]
  · rw [Z1h (by simpa using h),if_neg h]
theorem Zki (q:Q4) {kk:List Int→List Int→List Int→List Int→Option Z9} :
    Z1g kk big 0 (pt q).gX (pt q).gY (pt q).gZ (pt q).gT=kk (pt (Zgl q)).gX (pt (Zgl q)).gY (pt (Zgl q)).gZ (pt (Zgl q)).gT:=by
  obtain ⟨n,hn⟩ : ∃ n,big=n+1+1+1+1+1:=⟨18446744073709551611,Z47⟩
  have step : ∀ (n j:Nat) (q:Q4),j<4→Z1g kk (n+1) (j:Int) (pt q).gX (pt q).gY (pt q).gZ (pt q).gT =
      Z1g kk n ((j+1:Nat):Int) (pt (Z7w q)).gX (pt (Z7w q)).gY (pt (Z7w q)).gZ (pt (Z7w q)).gT:=by
    intro n j q hj
    rw [Z1g,Z4y,Z21 (by simp; omega)]
    have:=Zle q
    rw [show (⟨(pt q).gX,(pt q).gY,(pt q).gZ,(pt q).gT⟩:Z9)=pt q from rfl,Z3 this]
    simp only [Ze]
    rw [Zr (by omega) (by omega)]
    rfl
  rw [hn]
  have s0:=step (n+1+1+1+1) 0 q (by decide)
  have s1:=step (n+1+1+1) 1 (Z7w q) (by decide)
  have s2:=step (n+1+1) 2 (Z7w (Z7w q)) (by decide)
  have s3:=step (n+1) 3 (Z7w (Z7w (Z7w q))) (by decide)
  refine s0.trans (s1.trans (s2.trans (s3.trans ?_)))
  rw [Z1g,Z4y,Z1h (by decide)]
  rfl
def Zvf (k l:List Int) (p r:Q4) (q:Q4) (i:Nat):Q4:=Zf5 (Zf5 (Zgl q) (tab p (nib k i).toNat)) (tab r (nib l i).toNat)
def Zf4 (k l:List Int) (p r:Q4):Nat→Q4
  | 0=>Zku
  | i+1=>Zvf k l p r (Zf4 k l p r i) i
theorem Zrs (q:Q4):(⟨(pt q).gX,(pt q).gY,(pt q).gZ,(pt q).gT⟩:Z9)=pt q:=rfl
theorem Zfq {k l:List Int} (hk:Byt k) (hl:Byt l) (p r:Q4) : ∀ (j n:Nat),j≤64→Z29 k l (Zkc (fun j=>pt (tab p j)) 15) (Zkc (fun j=>pt (tab r j)) 15) (fun a b c d=>some ⟨a,b,c,d⟩) (n+1+j) ((64-j:Nat):Int) (pt (Zf4 k l p r (64-j))).gX (pt (Zf4 k l p r (64-j))).gY (pt (Zf4 k l p r (64-j))).gZ (pt (Zf4 k l p r (64-j))).gT=some (pt (Zf4 k l p r 64))
  | 0,n,_=>by
    rw [show n+1+0=n+1 from rfl,Z29,Z4x,Z1h (by decide)]
  | j+1,n,hj=>by
    have ih:=Zfq hk hl p r j n (by omega)
    have hr:=Zkq k (64-(j+1))
    have hr2:=Zkq l (64-(j+1))
    rw [← Nat.add_assoc,Z29,Z4x,Z21 (by simp; omega),Z2f,Zki]
    rw [Z3 (Zfv hk (by omega)),Z05 (Z2j hr.1 hr.2),Ze,Zfj _ (by omega) (by decide)]
    have hadd:=Zfc (Zgl (Zf4 k l p r (64-(j+1)))) (tab p (nib k (64-(j+1))).toNat)
    rw [Zrs,Z3 hadd]
    rw [Z3 (Zfv hl (by omega)),Z05 (Z2j hr2.1 hr2.2),Ze,Zfj _ (by omega) (by decide)]
    have hadd2:=Zfc (Zf5 (Zgl (Zf4 k l p r (64-(j+1)))) (tab p (nib k (64-(j+1))).toNat)) (tab r (nib l (64-(j+1))).toNat)
    rw [Z3 hadd2,Ze,Zr (by omega) (by omega)]
    have ei:((64-(j+1):Nat):Int)+1=((64-(j+1)+1:Nat):Int):=by omega
    rw [ei]
    have e:64-(j+1)+1=64-j:=by omega
    rw [e]
    have e2:Zf5 (Zf5 (Zgl (Zf4 k l p r (64-(j+1)))) (tab p (nib k (64-(j+1))).toNat)) (tab r (nib l (64-(j+1))).toNat)=Zf4 k l p r (64-j):=by rw [← e]; rfl
    rw [e2]
    exact ih
theorem Zgw {k l:List Int} (hk:Byt k) (hl:Byt l) (p:Q4):Z70 k (pt p) l=some (pt (Zf4 k l p Zi8 64)):=by
  rw [Z70,Z3 Zma,Z2f,Z3 (Zc0 p),Z3 (Zc0 Zi8)]
  dsimp only
  rw [Z3 Zl7,Z2f]
  obtain ⟨n,hn⟩ : ∃ n,big=n+1+64:=⟨18446744073709551551,Z47⟩
  have:=Zfq hk hl p Zi8 64 n (by decide)
  rw [← hn] at this
  exact this
theorem Znz {x:List Int} (h:Byt x):Z49 x=some (ieq 32 (byt (Z58 (fe (Zd1 x))%PP)) x):=by
  rw [Z49,Z3 (Z9s h),Z3 (Zlc (Zad _))]
def esq:List Int:=[253,255,255,255,255,255,255,255,255,255,255,255,255,255,255,255,255,255,255,255,255,255,255,255,255,255,255,255,255,255,255,15]
def ert:List Int:=[251,255,255,255,255,255,255,255,255,255,255,255,255,255,255,255,255,255,255,255,255,255,255,255,255,255,255,255,255,255,255,31]
theorem Zrq:Z5k 253 15=some esq:=by kernel_rfl
theorem Zrp:Z5k 251 31=some ert:=by kernel_rfl
theorem fpow (a:Int) {e:List Int} (he:Byt e):Z8h (fe a) e=some (fe (pw (a%PP) e 256)):=by
  rw [Zt5 (Zad _) he,Zsu (Zpe _ _ _),Z41]
theorem fodd (a:Int):Z6h (fe a)=some (a%PP%2==1):=by rw [Zln (Zad _),Z41,Zeb]
theorem Zus (a:Int):Z3r (fe a)=some (decide (a%PP=0)):=by rw [Zoo (Zad _),Z41,Zeb]
theorem feq (a b:Int):Z6g (fe a) (fe b)=some (decide (a%PP=b%PP)):=by rw [Zqx (Zad _) (Zad _),Z41,Z41,Zeb,Zeb]
theorem Zoh (c:Bool) (a b:Int):Z6s c (fe a) (fe b)=some (fe (bif c then a else b)):=by
  rw [Zpr (Zad _) (Zad _),Z41,Z41]; cases c <;> simp [Zst]
def Zun (a:Int):Int:=bif a%PP%2==1 then -a else a
def Zin (a b:Int):Int:=a*(b*b*b)*pw ((a*((b*b*b)*(b*b*b))*b)%PP) esq 256
def Zs6:Int:=pw (2%PP) ert 256
def Znm (a b:Int):Int×Bool :=
  if b%PP=0 then (0,decide (a%PP=0))
  else if (b*(Zin a b*Zin a b))%PP=a%PP then (Zun (Zin a b),true)
  else if (b*(Zin a b*Zin a b))%PP=(-a)%PP then (Zun (Zin a b*Zs6),true)
  else (0,false)
theorem fe0:([0,0,0,0,0]:List Int)=fe 0:=by decide
theorem Zvz (a b:Int):Z5j (fe a) (fe b)=some (fe (Znm a b).1,(Znm a b).2):=by
  rw [Z5j,Z3 (Zus b)]
  unfold Znm
  by_cases h:b%PP=0
  · rw [if_pos h,Z21 (by simpa using h),Ze,Z3 (Zus a),fe0]
  · rw [if_neg h,Z1h (by simpa using h),Z3 (Zbu b),Z3 (Zgf _ _),Z3 (Zbu _),Z3 (Zgf _ _),Z3 (Zgf _ _),Z3 (Zgf _ _),Z3 Zrq,Z3 (fpow _ (byt_of (by decide))),Z3 (Zgf _ _)]
    have e0:a*(b*b*b)*pw ((a*((b*b*b)*(b*b*b))*b)%PP) esq 256=Zin a b:=rfl
    rw [e0,Z3 (Zbu _),Z3 (Zgf _ _),Z2f,Z3 (feq _ _)]
    by_cases h1:(b*(Zin a b*Zin a b))%PP=a%PP
    · rw [if_pos h1,Z21 (by simpa using h1)]
      dsimp only
      rw [Z3 (fodd _),Z3 (Zwc _),Z3 (Zoh _ _ _)]
      rfl
    · rw [if_neg h1,Z1h (by simpa using h1),Z3 (Zwc _),Z3 (feq _ _)]
      by_cases h2:(b*(Zin a b*Zin a b))%PP=(-a)%PP
      · rw [if_pos h2,Z21 (by simpa using h2),Z3 (Zm8 (n:=2) (by decide)),Z3 Zrp,Z3 (fpow _ (byt_of (by decide))),Z3 (Zgf _ _)]
        dsimp only
        rw [Z3 (fodd _),Z3 (Zwc _),Z3 (Zoh _ _ _)]
        rfl
      · rw [if_neg h2,Z1h (by simpa using h2),Ze,fe0]
def DD:Int:=37095705934669439343138083508754565189542113879843219016388785533085940283555
theorem Zr6:Z9b=some (fe DD):=by rw [Z9b,Ze]; decide
def Z3i (p:List Int):List Int:=Z4h p 31 (p.getD 31 0%128)
def Zqe (p:List Int):Int:=p.getD 31 0 / 128
def Zwb (p:List Int):Bool:=ieq 32 (byt (Z58 (fe (Zd1 (Z3i p)))%PP)) (Z3i p)
def Zac (y:Int):Int×Bool:=Znm (y*y-1) (DD*(y*y)+1)
def dx (p:List Int):Int:=if Zqe p=1 then-(Zac (Zd1 (Z3i p))).1 else (Zac (Zd1 (Z3i p))).1
def dok (p:List Int):Bool:=Zwb p&&(Zac (Zd1 (Z3i p))).2 && !(Zqe p==1&&decide ((Zac (Zd1 (Z3i p))).1%PP=0))
def dpt (p:List Int):Q4:=⟨dx p,Zd1 (Z3i p),1,dx p*Zd1 (Z3i p)⟩
theorem Zfi {p:List Int} (h:Byt p) {j:Nat} {v:Int} (hv:0≤v∧v<256):Byt (Z4h p j v):=by
  intro i
  rw [Z8j]
  split
  · exact hv
  · exact h i
theorem Zwk {x:Int} (h0:0≤x) (h1:x<256):Z4 .and .u8 x 127=x%128:=Zdj 7 (by decide) (by decide) h0 h1
theorem Ziz {p:List Int} (h:Byt p):Z8c p=some (if dok p then (pt (dpt p),true) else (Z0g,false)):=by
  have h31:=h 31
  have hy:Byt (Z3i p):=Zfi h (by omega)
  have hs:Zh .u8 (p.getD 31 0) 7=Zqe p:=by have:=Zc8 .u8 (x:=p.getD 31 0) (n:=7) (by decide); simpa [Zqe] using this
  rw [Z8c,Ze,Ze,Ze,Ze,Ze,Zwk h31.1 h31.2,hs]
  show opt (Z49 (Z3i p)) _=_
  rw [Z3 (Znz hy)]
  have ec:ieq 32 (byt (Z58 (fe (Zd1 (Z3i p)))%PP)) (Z3i p)=Zwb p:=rfl
  rw [ec]
  unfold dok
  cases hc:Zwb p
  · rw [Z21 (by rfl)]; rfl
  · rw [Z1h (by rfl)]
    show opt (Z26 (Z3i p)) _=_
    rw [Z3 (Z9s hy),Z3 (Zbu _),Z3 Zil,Z3 (Zur _ _),Z3 Zr6,Z3 (Zgf _ _),Z3 (Zqf _ _),Z3 (Zvz _ _)]
    have er:Znm (Zd1 (Z3i p)*Zd1 (Z3i p)-1) (DD*(Zd1 (Z3i p)*Zd1 (Z3i p))+1)=Zac (Zd1 (Z3i p)):=rfl
    rw [er]
    simp only [Zus]
    cases hd:(Zac (Zd1 (Z3i p))).2
    · rw [Z05 (by simp [imp]),Z21 (by simp)]; rfl
    · rw [Z05 (by simp [imp])]
      by_cases hz:(Zqe p==1&&decide ((Zac (Zd1 (Z3i p))).1%PP=0))=true
      · rw [Z21 (by simpa using hz),if_neg (by simp [hz])]; rfl
      · have hz':(Zqe p==1&&decide ((Zac (Zd1 (Z3i p))).1%PP=0))=false:=by simpa using hz
        rw [Z1h (by simpa using hz'),if_pos (by simp [hz']),Z2f]
        unfold dpt dx
        by_cases ht:Zqe p=1
        · rw [Z21 (by simp [ht]),Z3 (Zwc _),if_pos ht]
          dsimp only
          rw [Z3 (Zgf _ _)]; rfl
        · rw [Z1h (by simpa using ht),if_neg ht]
          dsimp only
          rw [Z3 (Zgf _ _)]; rfl
def W64 (l:List Int):Prop:=∀ i,0≤l.getD i 0∧l.getD i 0<18446744073709551616
def V4 (l:List Int):Int:=l.getD 0 0+l.getD 1 0*18446744073709551616+l.getD 2 0*340282366920938463463374607431768211456+l.getD 3 0*6277101735386680763835789423207666416102355444464034512896
def B4:Int:=115792089237316195423570985008687907853269984665640564039457584007913129639936
def VL:Int:=7237005577332262213973186563042994240857116359379907606001950938285454250989
theorem Zhj:V4 G_order=VL:=by decide
theorem Zgb {l:List Int} (h : ∀ x∈l,0≤x∧x<18446744073709551616):W64 l:=by
  intro i
  simp only [List.getD]
  cases hi:l[i]? with
  | none=>simp
  | some v=>exact h v (List.mem_of_getElem? hi)
theorem Z96:W64 G_order:=Zgb (by decide)
theorem Z97 {l:List Int} (h:W64 l) {i:Nat} {z:Int} (hz:0≤z∧z<18446744073709551616):W64 (Z4h l i z):=by
  intro j; rw [Z8j]; split
  · exact hz
  · exact h j
theorem Zf9 {l:List Int} (h:W64 l) {i:Nat} {z:Int} (hz:0≤z∧z<18446744073709551616):W64 (Zf7 0 l i z):=by
  intro j; rw [Z5l]; split
  · exact hz
  · exact h j
theorem Z3o (n:Nat):W64 (List.replicate n 0):=Zgb (by intro x hx; rw [List.mem_replicate] at hx; omega)
theorem Zjg (x y:Int):0≤Z4 .or .u64 x y∧Z4 .or .u64 x y<18446744073709551616:=by
  show 0≤IntKind.u64.wrap _∧IntKind.u64.wrap _<_
  rw [Zcc]; omega
theorem Zke (x y:Int):0≤Z4 .and .u64 x y∧Z4 .and .u64 x y<18446744073709551616:=by
  show 0≤IntKind.u64.wrap _∧IntKind.u64.wrap _<_
  rw [Zcc]; omega
theorem Ztj {x y c:Int} (hx:0≤x∧x<18446744073709551616) (hy:0≤y∧y<18446744073709551616) (hc:c=0∨c=1):Zbi x y c=true:=by
  unfold Zbi
  rw [decide_eq_true hx.1,decide_eq_true hy.1,decide_eq_true (show 0≤c by omega),decide_eq_true (show c≤1 by omega)]; rfl
theorem Zw1 {x y c:Int} (hx:0≤x∧x<18446744073709551616) (hy:0≤y∧y<18446744073709551616) (hc:c=0∨c=1):Zq0 x y c=true:=by
  unfold Zq0
  rw [decide_eq_true hx.1,decide_eq_true hy.1,decide_eq_true hy.2,decide_eq_true (show 0≤c by omega),decide_eq_true (show c≤1 by omega)]; rfl
theorem Zcj {q:List Int} {k:Int→List Int→Option (List Int×Int)} {a:List Int} {c:Int} (n:Nat) {i:Nat} (hi:i<4) (ha:W64 a) (hq:W64 q) (hc:c=0∨c=1) :
    ∃ c' lo,Z27 q k (n+1) c (i:Int) a=Z27 q k n c' ((i+1:Nat):Int) (Z4h a i lo)∧0≤lo∧lo<18446744073709551616∧(c'=0∨c'=1)∧lo=a.getD i 0-q.getD i 0-c+c'*18446744073709551616:=by
  have h1:=ha i
  have h2:=hq i
  refine ⟨Zs7 (a.getD i 0) (q.getD i 0) c,Zs8 (a.getD i 0) (q.getD i 0) c,?_,?_⟩
  · rw [Z27,Z5r,Z21 (by simp; omega),Z05 (Z2j (by omega) (by omega)),Z05 (Z2j (by omega) (by omega)),Ze,Ze]
    simp only [Int.toNat_natCast]
    rw [Z05 (Zw1 h1 h2 hc),Ze,Ze,Z05 (Z2j (by omega) (by omega)),Ze,Ze,Zr (by omega) (by omega)]
    rfl
  · unfold Zs7 Zs8
    generalize a.getD i 0=x at *
    generalize q.getD i 0=y at *
    split <;> omega
theorem Zdt {p q:List Int} (hp:W64 p) (hq:W64 q) : ∃ a c,Z4n p q=some (a,c)∧W64 a∧(c=0∨c=1)∧V4 a=V4 p-V4 q+c*B4:=by
  obtain ⟨n,hn⟩ : ∃ n,big=n+1+1+1+1+1:=⟨18446744073709551611,Z47⟩
  rw [Z4n,Z2f,hn]
  obtain ⟨c0,l0,e0,b0,b0',hc0,v0⟩:=Zcj (k:=fun i a=>some (a,i)) (n+1+1+1+1) (i:=0) (by decide) hp hq (.inl rfl)
  have w0:=Z97 hp (i:=0) ⟨b0,b0'⟩
  obtain ⟨c1,l1,e1,b1,b1',hc1,v1⟩:=Zcj (k:=fun i a=>some (a,i)) (n+1+1+1) (i:=1) (by decide) w0 hq hc0
  have w1:=Z97 w0 (i:=1) ⟨b1,b1'⟩
  obtain ⟨c2,l2,e2,b2,b2',hc2,v2⟩:=Zcj (k:=fun i a=>some (a,i)) (n+1+1) (i:=2) (by decide) w1 hq hc1
  have w2:=Z97 w1 (i:=2) ⟨b2,b2'⟩
  obtain ⟨c3,l3,e3,b3,b3',hc3,v3⟩:=Zcj (k:=fun i a=>some (a,i)) (n+1) (i:=3) (by decide) w2 hq hc2
  have w3:=Z97 w2 (i:=3) ⟨b3,b3'⟩
  refine ⟨_,c3,(e0.trans (e1.trans (e2.trans (e3.trans ?_)))),w3,hc3,?_⟩
  · rw [Z27,Z5r,Z1h (by decide)]
  · simp only [V4,Z8j] at v1 v2 v3 ⊢
    simp [-List.getD_eq_getElem?_getD] at v1 v2 v3 ⊢
    unfold B4
    omega
theorem Zdv {q:List Int} {k:Int→List Int→Option (List Int×Int)} {a:List Int} {c:Int} (n:Nat) {i:Nat} (hi:i<4) (ha:W64 a) (hq:W64 q) (hc:c=0∨c=1) :
    ∃ c' lo,Z2l q k (n+1) c (i:Int) a=Z2l q k n c' ((i+1:Nat):Int) (Z4h a i lo)∧0≤lo∧lo<18446744073709551616∧(c'=0∨c'=1)∧lo=a.getD i 0+q.getD i 0+c-c'*18446744073709551616:=by
  have h1:=ha i
  have h2:=hq i
  refine ⟨Zbp (a.getD i 0) (q.getD i 0) c,Z8b (a.getD i 0) (q.getD i 0) c,?_,?_⟩
  · rw [Z2l,Z6a,Z21 (by simp; omega),Z05 (Z2j (by omega) (by omega)),Z05 (Z2j (by omega) (by omega)),Ze,Ze]
    simp only [Int.toNat_natCast]
    rw [Z05 (Ztj h1 h2 hc),Ze,Ze,Z05 (Z2j (by omega) (by omega)),Ze,Ze,Zr (by omega) (by omega)]
    rfl
  · unfold Zbp Z8b
    generalize a.getD i 0=x at *
    generalize q.getD i 0=y at *
    omega
theorem Zdb {p q:List Int} (hp:W64 p) (hq:W64 q) : ∃ a c,Z42 p q=some (a,c)∧W64 a∧(c=0∨c=1)∧V4 a=V4 p+V4 q-c*B4:=by
  obtain ⟨n,hn⟩ : ∃ n,big=n+1+1+1+1+1:=⟨18446744073709551611,Z47⟩
  rw [Z42,Z2f,hn]
  obtain ⟨c0,l0,e0,b0,b0',hc0,v0⟩:=Zdv (k:=fun i a=>some (a,i)) (n+1+1+1+1) (i:=0) (by decide) hp hq (.inl rfl)
  have w0:=Z97 hp (i:=0) ⟨b0,b0'⟩
  obtain ⟨c1,l1,e1,b1,b1',hc1,v1⟩:=Zdv (k:=fun i a=>some (a,i)) (n+1+1+1) (i:=1) (by decide) w0 hq hc0
  have w1:=Z97 w0 (i:=1) ⟨b1,b1'⟩
  obtain ⟨c2,l2,e2,b2,b2',hc2,v2⟩:=Zdv (k:=fun i a=>some (a,i)) (n+1+1) (i:=2) (by decide) w1 hq hc1
  have w2:=Z97 w1 (i:=2) ⟨b2,b2'⟩
  obtain ⟨c3,l3,e3,b3,b3',hc3,v3⟩:=Zdv (k:=fun i a=>some (a,i)) (n+1) (i:=3) (by decide) w2 hq hc2
  have w3:=Z97 w2 (i:=3) ⟨b3,b3'⟩
  refine ⟨_,c3,(e0.trans (e1.trans (e2.trans (e3.trans ?_)))),w3,hc3,?_⟩
  · rw [Z2l,Z6a,Z1h (by decide)]
  · simp only [V4,Z8j] at v1 v2 v3 ⊢
    simp [-List.getD_eq_getElem?_getD] at v1 v2 v3 ⊢
    unfold B4
    omega
theorem Za5 {l:List Int} (h:W64 l):0≤V4 l∧V4 l<B4:=by
  have h0:=h 0
  have h1:=h 1
  have h2:=h 2
  have h3:=h 3
  unfold V4 B4
  omega
theorem Zcd {k2:List Int→Option (List Int)} {k5:Unit→Option (List Int)} {a:List Int} (n:Nat) {i:Nat} (hi:i<4) :
    Z0a k2 a k5 (n+1) (i:Int)=if a.getD i 0<G_order.getD i 0 then k2 a else if a.getD i 0>G_order.getD i 0 then k5 () else Z0a k2 a k5 n ((i:Int)-1):=by
  rw [Z0a,Z5q,Z21 (by simp),Z05 (Z2j (by omega) (by omega)),Z05 (Z2j (by omega) (by omega)),Ze,Ze]
  simp only [Int.toNat_natCast]
  by_cases h1:a.getD i 0<G_order.getD i 0
  · rw [Z21 (by simpa using h1),if_pos h1]
  · rw [Z1h (by simpa using h1),if_neg h1,Z05 (Z2j (by omega) (by omega)),Z05 (Z2j (by omega) (by omega)),Ze,Ze]
    by_cases h2:a.getD i 0>G_order.getD i 0
    · rw [Z21 (by simpa using h2),if_pos h2]
    · rw [Z1h (by simpa using h2),if_neg h2,Ze,Zr (by omega) (by omega)]
theorem Zit {k2:List Int→Option (List Int)} {k5:Unit→Option (List Int)} {a:List Int} (ha:W64 a):Z0a k2 a k5 big 3=if V4 a<VL then k2 a else k5 ():=by
  obtain ⟨n,hn⟩ : ∃ n,big=n+1+1+1+1+1:=⟨18446744073709551611,Z47⟩
  rw [hn]
  have s3:=Zcd (k2:=k2) (k5:=k5) (a:=a) (n+1+1+1+1) (i:=3) (by decide)
  have s2:=Zcd (k2:=k2) (k5:=k5) (a:=a) (n+1+1+1) (i:=2) (by decide)
  have s1:=Zcd (k2:=k2) (k5:=k5) (a:=a) (n+1+1) (i:=1) (by decide)
  have s0:=Zcd (k2:=k2) (k5:=k5) (a:=a) (n+1) (i:=0) (by decide)
  have e:Z0a k2 a k5 (n+1) (-1)=k5 ():=by
    rw [Z0a,Z5q,Z1h (by decide)]
  have o0:G_order.getD 0 0=6346243789798364141:=rfl
  have o1:G_order.getD 1 0=1503914060200516822:=rfl
  have o2:G_order.getD 2 0=0:=rfl
  have o3:G_order.getD 3 0=1152921504606846976:=rfl
  rw [o0] at s0
  rw [o1] at s1
  rw [o2] at s2
  rw [o3] at s3
  have s0':Z0a k2 a k5 (n+1+1) (1-1)=_:=s0
  have s1':Z0a k2 a k5 (n+1+1+1) (2-1)=_:=s1
  have s2':Z0a k2 a k5 (n+1+1+1+1) (3-1)=_:=s2
  have e':Z0a k2 a k5 (n+1) (0-1)=k5 ():=e
  have f3:Z0a k2 a k5 (n+1+1+1+1+1) 3=_:=s3
  rw [f3]
  rw [show ((3:Nat):Int)-1=3-1 from rfl,s2',show ((2:Nat):Int)-1=2-1 from rfl,s1',show ((1:Nat):Int)-1=1-1 from rfl,s0',show ((0:Nat):Int)-1=0-1 from rfl,e']
  have h0:=ha 0
  have h1:=ha 1
  have h2:=ha 2
  have h3:=ha 3
  unfold V4 VL
  generalize a.getD 0 0=a0 at *
  generalize a.getD 1 0=a1 at *
  generalize a.getD 2 0=a2 at *
  generalize a.getD 3 0=a3 at *
  by_cases hv:a0+a1*18446744073709551616+a2*340282366920938463463374607431768211456+a3*6277101735386680763835789423207666416102355444464034512896<7237005577332262213973186563042994240857116359379907606001950938285454250989
  · rw [if_pos hv]
    repeat' split
    all_goals first | rfl | (exfalso; omega)
  · rw [if_neg hv]
    repeat' split
    all_goals first | rfl | (exfalso; omega)
theorem Zmo (m:Nat) : ∀ (n:Nat) {a:List Int},W64 a→V4 a<((m:Int)+1)*VL→∃ r,Z2s some (n+1+m) a=some r∧W64 r∧V4 r=V4 a%VL:=by
  induction m with
  | zero =>
    intro n a ha hv
    have h0:=Za5 ha
    have hv':V4 a<VL:=by omega
    refine ⟨a,?_,ha,?_⟩
    · rw [Nat.add_zero,Z2s,Z5p,Z2f,Zit ha,if_pos hv']
    · rw [Int.emod_eq_of_lt h0.1 hv']
  | succ m ih =>
    intro n a ha hv
    have h0:=Za5 ha
    rw [← Nat.add_assoc,Z2s,Z5p,Z2f,Zit ha]
    by_cases h:V4 a<VL
    · rw [if_pos h]
      exact ⟨a,rfl,ha,by rw [Int.emod_eq_of_lt h0.1 h]⟩
    · rw [if_neg h]
      obtain ⟨b,c,e,hb,hc,hv2⟩:=Zdt ha Z96
      have hbr:=Za5 hb
      rw [Zhj] at hv2
      have hc0:c=0:=by
        unfold B4 VL at *
        rcases hc with h | h
        · exact h
        · exfalso; subst h; omega
      rw [Z3 e]
      have hv3:V4 b=V4 a-VL:=by rw [hv2,hc0]; omega
      have hlt:V4 b<((m:Int)+1)*VL:=by
        rw [hv3]
        have:((m+1:Nat):Int)+1=((m:Int)+1)+1:=by omega
        rw [this,Int.add_mul ((m:Int)+1) 1 VL] at hv
        omega
      obtain ⟨r,er,hr,vr⟩:=ih n hb hlt
      exact ⟨r,er,hr,by rw [vr,hv3,Int.sub_emod_right]⟩
theorem Zhr {a:List Int} (ha:W64 a) : ∃ r,Z5o a=some r∧W64 r∧V4 r=V4 a%VL:=by
  rw [Z5o,Z2f]
  obtain ⟨n,hn⟩ : ∃ n,big=n+1+16:=⟨18446744073709551599,Z47⟩
  rw [hn]
  have h:=Za5 ha
  exact Zmo 16 n ha (by unfold B4 at h; unfold VL; omega)
theorem Zh3 (p:List Int):Z6j p=some [Z4 .or .u64 (Z4 .or .u64 (Z4 .or .u64 (Z4 .or .u64 (Z4 .or .u64 (Z4 .or .u64 (Z4 .or .u64 (Z4 .or .u64 (0) (Zq .u64 (IntKind.wrap .u64 (p.getD 0 0)) 0)) (Zq .u64 (IntKind.wrap .u64 (p.getD 1 0)) 8)) (Zq .u64 (IntKind.wrap .u64 (p.getD 2 0)) 16)) (Zq .u64 (IntKind.wrap .u64 (p.getD 3 0)) 24)) (Zq .u64 (IntKind.wrap .u64 (p.getD 4 0)) 32)) (Zq .u64 (IntKind.wrap .u64 (p.getD 5 0)) 40)) (Zq .u64 (IntKind.wrap .u64 (p.getD 6 0)) 48)) (Zq .u64 (IntKind.wrap .u64 (p.getD 7 0)) 56),Z4 .or .u64 (Z4 .or .u64 (Z4 .or .u64 (Z4 .or .u64 (Z4 .or .u64 (Z4 .or .u64 (Z4 .or .u64 (Z4 .or .u64 (0) (Zq .u64 (IntKind.wrap .u64 (p.getD 8 0)) 0)) (Zq .u64 (IntKind.wrap .u64 (p.getD 9 0)) 8)) (Zq .u64 (IntKind.wrap .u64 (p.getD 10 0)) 16)) (Zq .u64 (IntKind.wrap .u64 (p.getD 11 0)) 24)) (Zq .u64 (IntKind.wrap .u64 (p.getD 12 0)) 32)) (Zq .u64 (IntKind.wrap .u64 (p.getD 13 0)) 40)) (Zq .u64 (IntKind.wrap .u64 (p.getD 14 0)) 48)) (Zq .u64 (IntKind.wrap .u64 (p.getD 15 0)) 56),Z4 .or .u64 (Z4 .or .u64 (Z4 .or .u64 (Z4 .or .u64 (Z4 .or .u64 (Z4 .or .u64 (Z4 .or .u64 (Z4 .or .u64 (0) (Zq .u64 (IntKind.wrap .u64 (p.getD 16 0)) 0)) (Zq .u64 (IntKind.wrap .u64 (p.getD 17 0)) 8)) (Zq .u64 (IntKind.wrap .u64 (p.getD 18 0)) 16)) (Zq .u64 (IntKind.wrap .u64 (p.getD 19 0)) 24)) (Zq .u64 (IntKind.wrap .u64 (p.getD 20 0)) 32)) (Zq .u64 (IntKind.wrap .u64 (p.getD 21 0)) 40)) (Zq .u64 (IntKind.wrap .u64 (p.getD 22 0)) 48)) (Zq .u64 (IntKind.wrap .u64 (p.getD 23 0)) 56),Z4 .or .u64 (Z4 .or .u64 (Z4 .or .u64 (Z4 .or .u64 (Z4 .or .u64 (Z4 .or .u64 (Z4 .or .u64 (Z4 .or .u64 (0) (Zq .u64 (IntKind.wrap .u64 (p.getD 24 0)) 0)) (Zq .u64 (IntKind.wrap .u64 (p.getD 25 0)) 8)) (Zq .u64 (IntKind.wrap .u64 (p.getD 26 0)) 16)) (Zq .u64 (IntKind.wrap .u64 (p.getD 27 0)) 24)) (Zq .u64 (IntKind.wrap .u64 (p.getD 28 0)) 32)) (Zq .u64 (IntKind.wrap .u64 (p.getD 29 0)) 40)) (Zq .u64 (IntKind.wrap .u64 (p.getD 30 0)) 48)) (Zq .u64 (IntKind.wrap .u64 (p.getD 31 0)) 56)]:=by kernel_rfl
theorem Zmi (p:List Int) (k:List Int→Option (List Int)):Z3n p k big 0 (List.replicate 8 0)=k [Z4 .or .u64 (Z4 .or .u64 (Z4 .or .u64 (Z4 .or .u64 (Z4 .or .u64 (Z4 .or .u64 (Z4 .or .u64 (Z4 .or .u64 (0) (Zq .u64 (IntKind.wrap .u64 (p.getD 0 0)) 0)) (Zq .u64 (IntKind.wrap .u64 (p.getD 1 0)) 8)) (Zq .u64 (IntKind.wrap .u64 (p.getD 2 0)) 16)) (Zq .u64 (IntKind.wrap .u64 (p.getD 3 0)) 24)) (Zq .u64 (IntKind.wrap .u64 (p.getD 4 0)) 32)) (Zq .u64 (IntKind.wrap .u64 (p.getD 5 0)) 40)) (Zq .u64 (IntKind.wrap .u64 (p.getD 6 0)) 48)) (Zq .u64 (IntKind.wrap .u64 (p.getD 7 0)) 56),Z4 .or .u64 (Z4 .or .u64 (Z4 .or .u64 (Z4 .or .u64 (Z4 .or .u64 (Z4 .or .u64 (Z4 .or .u64 (Z4 .or .u64 (0) (Zq .u64 (IntKind.wrap .u64 (p.getD 8 0)) 0)) (Zq .u64 (IntKind.wrap .u64 (p.getD 9 0)) 8)) (Zq .u64 (IntKind.wrap .u64 (p.getD 10 0)) 16)) (Zq .u64 (IntKind.wrap .u64 (p.getD 11 0)) 24)) (Zq .u64 (IntKind.wrap .u64 (p.getD 12 0)) 32)) (Zq .u64 (IntKind.wrap .u64 (p.getD 13 0)) 40)) (Zq .u64 (IntKind.wrap .u64 (p.getD 14 0)) 48)) (Zq .u64 (IntKind.wrap .u64 (p.getD 15 0)) 56),Z4 .or .u64 (Z4 .or .u64 (Z4 .or .u64 (Z4 .or .u64 (Z4 .or .u64 (Z4 .or .u64 (Z4 .or .u64 (Z4 .or .u64 (0) (Zq .u64 (IntKind.wrap .u64 (p.getD 16 0)) 0)) (Zq .u64 (IntKind.wrap .u64 (p.getD 17 0)) 8)) (Zq .u64 (IntKind.wrap .u64 (p.getD 18 0)) 16)) (Zq .u64 (IntKind.wrap .u64 (p.getD 19 0)) 24)) (Zq .u64 (IntKind.wrap .u64 (p.getD 20 0)) 32)) (Zq .u64 (IntKind.wrap .u64 (p.getD 21 0)) 40)) (Zq .u64 (IntKind.wrap .u64 (p.getD 22 0)) 48)) (Zq .u64 (IntKind.wrap .u64 (p.getD 23 0)) 56),Z4 .or .u64 (Z4 .or .u64 (Z4 .or .u64 (Z4 .or .u64 (Z4 .or .u64 (Z4 .or .u64 (Z4 .or .u64 (Z4 .or .u64 (0) (Zq .u64 (IntKind.wrap .u64 (p.getD 24 0)) 0)) (Zq .u64 (IntKind.wrap .u64 (p.getD 25 0)) 8)) (Zq .u64 (IntKind.wrap .u64 (p.getD 26 0)) 16)) (Zq .u64 (IntKind.wrap .u64 (p.getD 27 0)) 24)) (Zq .u64 (IntKind.wrap .u64 (p.getD 28 0)) 32)) (Zq .u64 (IntKind.wrap .u64 (p.getD 29 0)) 40)) (Zq .u64 (IntKind.wrap .u64 (p.getD 30 0)) 48)) (Zq .u64 (IntKind.wrap .u64 (p.getD 31 0)) 56),Z4 .or .u64 (Z4 .or .u64 (Z4 .or .u64 (Z4 .or .u64 (Z4 .or .u64 (Z4 .or .u64 (Z4 .or .u64 (Z4 .or .u64 (0) (Zq .u64 (IntKind.wrap .u64 (p.getD 32 0)) 0)) (Zq .u64 (IntKind.wrap .u64 (p.getD 33 0)) 8)) (Zq .u64 (IntKind.wrap .u64 (p.getD 34 0)) 16)) (Zq .u64 (IntKind.wrap .u64 (p.getD 35 0)) 24)) (Zq .u64 (IntKind.wrap .u64 (p.getD 36 0)) 32)) (Zq .u64 (IntKind.wrap .u64 (p.getD 37 0)) 40)) (Zq .u64 (IntKind.wrap .u64 (p.getD 38 0)) 48)) (Zq .u64 (IntKind.wrap .u64 (p.getD 39 0)) 56),Z4 .or .u64 (Z4 .or .u64 (Z4 .or .u64 (Z4 .or .u64 (Z4 .or .u64 (Z4 .or .u64 (Z4 .or .u64 (Z4 .or .u64 (0) (Zq .u64 (IntKind.wrap .u64 (p.getD 40 0)) 0)) (Zq .u64 (IntKind.wrap .u64 (p.getD 41 0)) 8)) (Zq .u64 (IntKind.wrap .u64 (p.getD 42 0)) 16)) (Zq .u64 (IntKind.wrap .u64 (p.getD 43 0)) 24)) (Zq .u64 (IntKind.wrap .u64 (p.getD 44 0)) 32)) (Zq .u64 (IntKind.wrap .u64 (p.getD 45 0)) 40)) (Zq .u64 (IntKind.wrap .u64 (p.getD 46 0)) 48)) (Zq .u64 (IntKind.wrap .u64 (p.getD 47 0)) 56),Z4 .or .u64 (Z4 .or .u64 (Z4 .or .u64 (Z4 .or .u64 (Z4 .or .u64 (Z4 .or .u64 (Z4 .or .u64 (Z4 .or .u64 (0) (Zq .u64 (IntKind.wrap .u64 (p.getD 48 0)) 0)) (Zq .u64 (IntKind.wrap .u64 (p.getD 49 0)) 8)) (Zq .u64 (IntKind.wrap .u64 (p.getD 50 0)) 16)) (Zq .u64 (IntKind.wrap .u64 (p.getD 51 0)) 24)) (Zq .u64 (IntKind.wrap .u64 (p.getD 52 0)) 32)) (Zq .u64 (IntKind.wrap .u64 (p.getD 53 0)) 40)) (Zq .u64 (IntKind.wrap .u64 (p.getD 54 0)) 48)) (Zq .u64 (IntKind.wrap .u64 (p.getD 55 0)) 56),Z4 .or .u64 (Z4 .or .u64 (Z4 .or .u64 (Z4 .or .u64 (Z4 .or .u64 (Z4 .or .u64 (Z4 .or .u64 (Z4 .or .u64 (0) (Zq .u64 (IntKind.wrap .u64 (p.getD 56 0)) 0)) (Zq .u64 (IntKind.wrap .u64 (p.getD 57 0)) 8)) (Zq .u64 (IntKind.wrap .u64 (p.getD 58 0)) 16)) (Zq .u64 (IntKind.wrap .u64 (p.getD 59 0)) 24)) (Zq .u64 (IntKind.wrap .u64 (p.getD 60 0)) 32)) (Zq .u64 (IntKind.wrap .u64 (p.getD 61 0)) 40)) (Zq .u64 (IntKind.wrap .u64 (p.getD 62 0)) 48)) (Zq .u64 (IntKind.wrap .u64 (p.getD 63 0)) 56)]:=by kernel_rfl
theorem Zjz (p:List Int):Z4p p=some [IntKind.wrap .u8 (p.getD 0 0),IntKind.wrap .u8 (Zh .u64 (p.getD 0 0) 8),IntKind.wrap .u8 (Zh .u64 (Zh .u64 (p.getD 0 0) 8) 8),IntKind.wrap .u8 (Zh .u64 (Zh .u64 (Zh .u64 (p.getD 0 0) 8) 8) 8),IntKind.wrap .u8 (Zh .u64 (Zh .u64 (Zh .u64 (Zh .u64 (p.getD 0 0) 8) 8) 8) 8),IntKind.wrap .u8 (Zh .u64 (Zh .u64 (Zh .u64 (Zh .u64 (Zh .u64 (p.getD 0 0) 8) 8) 8) 8) 8),IntKind.wrap .u8 (Zh .u64 (Zh .u64 (Zh .u64 (Zh .u64 (Zh .u64 (Zh .u64 (p.getD 0 0) 8) 8) 8) 8) 8) 8),IntKind.wrap .u8 (Zh .u64 (Zh .u64 (Zh .u64 (Zh .u64 (Zh .u64 (Zh .u64 (Zh .u64 (p.getD 0 0) 8) 8) 8) 8) 8) 8) 8),IntKind.wrap .u8 (p.getD 1 0),IntKind.wrap .u8 (Zh .u64 (p.getD 1 0) 8),IntKind.wrap .u8 (Zh .u64 (Zh .u64 (p.getD 1 0) 8) 8),IntKind.wrap .u8 (Zh .u64 (Zh .u64 (Zh .u64 (p.getD 1 0) 8) 8) 8),IntKind.wrap .u8 (Zh .u64 (Zh .u64 (Zh .u64 (Zh .u64 (p.getD 1 0) 8) 8) 8) 8),IntKind.wrap .u8 (Zh .u64 (Zh .u64 (Zh .u64 (Zh .u64 (Zh .u64 (p.getD 1 0) 8) 8) 8) 8) 8),IntKind.wrap .u8 (Zh .u64 (Zh .u64 (Zh .u64 (Zh .u64 (Zh .u64 (Zh .u64 (p.getD 1 0) 8) 8) 8) 8) 8) 8),IntKind.wrap .u8 (Zh .u64 (Zh .u64 (Zh .u64 (Zh .u64 (Zh .u64 (Zh .u64 (Zh .u64 (p.getD 1 0) 8) 8) 8) 8) 8) 8) 8),IntKind.wrap .u8 (p.getD 2 0),IntKind.wrap .u8 (Zh .u64 (p.getD 2 0) 8),IntKind.wrap .u8 (Zh .u64 (Zh .u64 (p.getD 2 0) 8) 8),IntKind.wrap .u8 (Zh .u64 (Zh .u64 (Zh .u64 (p.getD 2 0) 8) 8) 8),IntKind.wrap .u8 (Zh .u64 (Zh .u64 (Zh .u64 (Zh .u64 (p.getD 2 0) 8) 8) 8) 8),IntKind.wrap .u8 (Zh .u64 (Zh .u64 (Zh .u64 (Zh .u64 (Zh .u64 (p.getD 2 0) 8) 8) 8) 8) 8),IntKind.wrap .u8 (Zh .u64 (Zh .u64 (Zh .u64 (Zh .u64 (Zh .u64 (Zh .u64 (p.getD 2 0) 8) 8) 8) 8) 8) 8),IntKind.wrap .u8 (Zh .u64 (Zh .u64 (Zh .u64 (Zh .u64 (Zh .u64 (Zh .u64 (Zh .u64 (p.getD 2 0) 8) 8) 8) 8) 8) 8) 8),IntKind.wrap .u8 (p.getD 3 0),IntKind.wrap .u8 (Zh .u64 (p.getD 3 0) 8),IntKind.wrap .u8 (Zh .u64 (Zh .u64 (p.getD 3 0) 8) 8),IntKind.wrap .u8 (Zh .u64 (Zh .u64 (Zh .u64 (p.getD 3 0) 8) 8) 8),IntKind.wrap .u8 (Zh .u64 (Zh .u64 (Zh .u64 (Zh .u64 (p.getD 3 0) 8) 8) 8) 8),IntKind.wrap .u8 (Zh .u64 (Zh .u64 (Zh .u64 (Zh .u64 (Zh .u64 (p.getD 3 0) 8) 8) 8) 8) 8),IntKind.wrap .u8 (Zh .u64 (Zh .u64 (Zh .u64 (Zh .u64 (Zh .u64 (Zh .u64 (p.getD 3 0) 8) 8) 8) 8) 8) 8),IntKind.wrap .u8 (Zh .u64 (Zh .u64 (Zh .u64 (Zh .u64 (Zh .u64 (Zh .u64 (Zh .u64 (p.getD 3 0) 8) 8) 8) 8) 8) 8) 8)]:=by kernel_rfl
theorem Zk5 (x:Int):0≤IntKind.wrap .u8 x∧IntKind.wrap .u8 x<256:=by rw [Z0c]; omega
theorem Zpz (p:List Int) : ∃ r,Z4p p=some r∧Byt r∧r.length=32:=by
  refine ⟨_,Zjz p,byt_of ?_,rfl⟩
  repeat' (first | exact Zk5 _ | exact List.forall_mem_nil _ | refine List.forall_mem_cons.2 ⟨?_,?_⟩)
theorem Zr7 (p:List Int) : ∃ r,Z6j p=some r∧W64 r:=by
  refine ⟨_,Zh3 p,Zgb ?_⟩
  repeat' (first | exact Zjg _ _ | exact List.forall_mem_nil _ | refine List.forall_mem_cons.2 ⟨?_,?_⟩)
theorem Zht (p:List Int) : ∃ b,Z2b p=some b:=by
  obtain ⟨r,e,hr⟩:=Zr7 p
  obtain ⟨a,c,e2,_⟩:=Zdt hr Z96
  exact ⟨_,by rw [Z2b,Z3 e,Z3 e2]⟩
theorem Zfb {x y:Int} (hx:0≤x) (hy:0≤y):Zbi x y 0=true:=by
  unfold Zbi
  rw [decide_eq_true hx,decide_eq_true hy]; rfl
theorem Zq6 (x:Int):0≤IntKind.wrap .u64 x∧IntKind.wrap .u64 x<18446744073709551616:=by rw [Zcc]; omega
theorem Zdi (x y c:Int):0≤Z8b x y c∧Z8b x y c<18446744073709551616:=by unfold Z8b; omega
theorem Zl1 {q:List Int} (hq:W64 q) {i:Nat} {z:Int} (hz:0≤z∧z<18446744073709551616) {L:Nat} (hL:i+q.length≤L) (hb:L<1000000) (m:Nat) : ∀ (n:Nat) (j:Nat) (l:List Int) (c:Int),j+m=q.length→l.length=L→W64 l→(0≤c∧c<18446744073709551616) →
    ∃ l' c',(∀ k,Z1f q (i:Int) z k (n+1+m) l c (j:Int)=k l' c')∧l'.length=L∧W64 l'∧(0≤c'∧c'<18446744073709551616):=by
  induction m with
  | zero =>
    intro n j l c hj hl hw hc
    refine ⟨l,c,fun k=>?_,hl,hw,hc⟩
    rw [Nat.add_zero,Z1f,Z3g,Z1h (by simp; omega)]
  | succ m ih =>
    intro n j l c hj hl hw hc
    have hqj:=hq j
    have hmul:=Zi0 hz hqj
    have hlj:=hw (i+j)
    have hp:0≤z*q.getD j 0:=Int.mul_nonneg hz.1 hqj.1
    have e1:IntKind.wrap .i64 ((i:Int)+(j:Int))=((i+j:Nat):Int):=by rw [Zr (by omega) (by omega)]; omega
    have e2:IntKind.wrap .i64 ((j:Int)+1)=((j+1:Nat):Int):=by rw [Zr (by omega) (by omega)]; rfl
    have hj':j<q.length:=by omega
    have hbr:decide ((j:Int)<(q.length:Int))=true:=by simp; omega
    have hlo:0≤z*q.getD j 0%18446744073709551616:=by omega
    obtain ⟨l',c',e,h1,h2,h3⟩:=ih n (j+1) (Zf7 0 l (i+j) (Z8b (Z8b (z*q.getD j 0%18446744073709551616) (l.getD (i+j) 0) 0) c 0)) (IntKind.wrap .u64 (IntKind.wrap .u64 (z*q.getD j 0 / 18446744073709551616+Zbp (z*q.getD j 0%18446744073709551616) (l.getD (i+j) 0) 0)+Zbp (Z8b (z*q.getD j 0%18446744073709551616) (l.getD (i+j) 0) 0) c 0)) (by omega) (by rw [Zax (by omega),List.length_set,hl]) (Zf9 hw (Zdi _ _ _)) (Zq6 _)
    refine ⟨l',c',fun k=>?_,h1,h2,h3⟩
    rw [← Nat.add_assoc,Z1f,Z3g,Z21 hbr,Z05 (Z2j (by omega) (by omega)),Ze]
    simp only [Int.toNat_natCast]
    rw [Z3 hmul,Ze,e1,Z05 (Z2j (by omega) (by omega)),Ze]
    simp only [Int.toNat_natCast]
    rw [Z05 (Zfb hlo hlj.1),Ze,Ze,Ze,Z05 (Zfb (Zdi _ _ _).1 hc.1),Ze,Ze,Ze,Ze,Z05 (Z2j (by omega) (by omega)),Ze,Ze,e2]
    exact e k
theorem Zl2 {p q:List Int} (hp:W64 p) (hq:W64 q) {L:Nat} (hL:p.length+q.length=L) (hb:L<1000000) (m:Nat) : ∀ (n:Nat) (i:Nat) (l:List Int),i+m=p.length→l.length=L→W64 l →
    ∃ l',Z1e p q some (n+1+m) l (i:Int)=some l'∧l'.length=L∧W64 l':=by
  induction m with
  | zero =>
    intro n i l hi hl hw
    refine ⟨l,?_,hl,hw⟩
    rw [Nat.add_zero,Z1e,Z3f,Z1h (by simp; omega)]
  | succ m ih =>
    intro n i l hi hl hw
    have hbr:decide ((i:Int)<(p.length:Int))=true:=by simp; omega
    obtain ⟨n',hn⟩ : ∃ n',big=n'+1+q.length:=⟨18446744073709551615-q.length,by have:big=18446744073709551616:=Z47; omega⟩
    obtain ⟨l',c',e,hl',hw',hc'⟩:=Zl1 hq (i:=i) (hp i) (L:=L) (by omega) hb q.length n' 0 l 0 (by omega) hl hw (by decide)
    have e1:IntKind.wrap .i64 ((i:Int)+(q.length:Int))=((i+q.length:Nat):Int):=by rw [Zr (by omega) (by omega)]; omega
    have e2:IntKind.wrap .i64 ((i:Int)+1)=((i+1:Nat):Int):=by rw [Zr (by omega) (by omega)]; rfl
    obtain ⟨l2,e3,hl2,hw2⟩:=ih n (i+1) (Zf7 0 l' (i+q.length) c') (by omega) (by rw [Zax (by omega),List.length_set,hl']) (Zf9 hw' hc')
    refine ⟨l2,?_,hl2,hw2⟩
    rw [← Nat.add_assoc,Z1e,Z3f,Z21 hbr,Z05 (Z2j (by omega) (by omega)),Ze,Z2f]
    simp only [Int.toNat_natCast]
    rw [hn]
    refine (e _).trans ?_
    simp only [Ze,e1,e2]
    rw [Z05 (Z2j (by omega) (by omega))]
    exact e3
theorem Zq2 {p q:List Int} (hp:W64 p) (hq:W64 q) (hb:p.length+q.length<1000000) : ∃ r,Z4q p q=some r∧r.length=p.length+q.length∧W64 r:=by
  have e1:IntKind.wrap .i64 ((p.length:Int)+(q.length:Int))=((p.length+q.length:Nat):Int):=by rw [Zr (by omega) (by omega)]; omega
  obtain ⟨n,hn⟩ : ∃ n',big=n'+1+p.length:=⟨18446744073709551615-p.length,by have:big=18446744073709551616:=Z47; omega⟩
  obtain ⟨r,e,h1,h2⟩:=Zl2 hp hq (L:=p.length+q.length) rfl hb p.length n 0 (List.replicate (p.length+q.length) 0) (by omega) (by simp) (Z3o _)
  refine ⟨r,?_,h1,h2⟩
  rw [Z4q,Ze,e1,Z05 (by unfold mkB; simp; omega),Z2f,Int.toNat_natCast,hn]
  exact e
theorem Zjv {x:Int} (h:0≤x∧x<18446744073709551616):0≤Zh .u64 x 60∧Zh .u64 x 60<18446744073709551616:=by
  have:=Zc8 .u64 (x:=x) (n:=60) (by decide)
  rw [show ((60:Nat):Int)=60 from rfl] at this
  rw [this]
  have:((2^60:Nat):Int)=1152921504606846976:=by decide
  rw [this]; omega
theorem Zhk {l r:List Int} (h:W64 l) (hr:W64 r):W64 (l++r):=by
  intro i
  by_cases hi:i<l.length
  · have:(l++r).getD i 0=l.getD i 0:=by simp [List.getD_eq_getElem?_getD,List.getElem?_append_left hi]
    rw [this]; exact h i
  · have:(l++r).getD i 0=r.getD (i-l.length) 0:=by simp [List.getD_eq_getElem?_getD,List.getElem?_append_right (Nat.le_of_not_lt hi)]
    rw [this]; exact hr _
theorem Zhl {z:Int} (h:0≤z∧z<18446744073709551616):W64 [z]:=Zgb (by simpa using h)
theorem Zne {p:List Int} (hp:W64 p) (hb:p.length<1000000) {k:List Int→Option (List Int×List Int)} (m:Nat) : ∀ (n i:Nat) (l:List Int),i+m=p.length→l.length≤i→W64 l →
    ∃ l',Z0r p k (n+1+m) l (i:Int)=k l'∧l'.length=l.length+m∧W64 l':=by
  induction m with
  | zero =>
    intro n i l hi hl hw
    refine ⟨l,?_,rfl,hw⟩
    rw [Nat.add_zero,Z0r,Z1p,Z1h (by simp; omega)]
  | succ m ih =>
    intro n i l hi hl hw
    have hbr:decide ((i:Int)<(p.length:Int))=true:=by simp; omega
    have e2:IntKind.wrap .i64 ((i:Int)+1)=((i+1:Nat):Int):=by rw [Zr (by omega) (by omega)]; rfl
    have hs:=Zjv (hp i)
    by_cases h:i+1<p.length
    · obtain ⟨l',e,h1,h2⟩:=ih n (i+1) (l ++ [Z4 .or .u64 (Zh .u64 (p.getD i 0) 60) (Zq .u64 (p.getD (i+1) 0) 4)]) (by omega) (by simp; omega) (Zhk hw (Zhl (Zjg _ _)))
      refine ⟨l',?_,by rw [h1]; simp; omega,h2⟩
      rw [← Nat.add_assoc,Z0r,Z1p,Z21 hbr,Z05 (Z2j (by omega) (by omega))]
      simp only [Ze,e2,Z2f,Int.toNat_natCast]
      rw [Z21 (by simp; omega),Z05 (Z2j (by omega) (by omega))]
      rw [Z05 (by simp; omega)]
      exact e
    · obtain ⟨l',e,h1,h2⟩:=ih n (i+1) (l ++ [Zh .u64 (p.getD i 0) 60]) (by omega) (by simp; omega) (Zhk hw (Zhl hs))
      refine ⟨l',?_,by rw [h1]; simp; omega,h2⟩
      rw [← Nat.add_assoc,Z0r,Z1p,Z21 hbr,Z05 (Z2j (by omega) (by omega))]
      simp only [Ze,e2,Z2f,Int.toNat_natCast]
      rw [Z1h (by simp; omega)]
      rw [Z05 (by simp; omega)]
      exact e
theorem Zpv {p:List Int} (hp:W64 p) (h4:4≤p.length) (hb:p.length<1000000) : ∃ a h,Z4o p=some (a,h)∧W64 a∧W64 h∧h.length=p.length-3:=by
  obtain ⟨n,hn⟩ : ∃ n',big=n'+1+(p.length-3):=⟨18446744073709551615-(p.length-3),by have:big=18446744073709551616:=Z47; omega⟩
  have hw0:W64 (wr (List.replicate 4 0) 0 (p.take 4)):=by
    intro i
    rw [Zl6]
    split
    · rename_i h
      have:(p.take 4).getD (i-0) 0=p.getD i 0:=by
        simp only [List.length_take] at h
        have h4':i<4:=by omega
        simp [List.getD_eq_getElem?_getD,List.getElem?_take,h4']
      rw [this]; exact hp i
    · exact Z3o 4 i
  obtain ⟨l',e,h1,h2⟩:=Zne hp hb (k:=fun l128=>some (Z4h (wr (List.replicate 4 0) 0 (p.take 4)) 3 (Z4 .and .u64 ((wr (List.replicate 4 0) 0 (p.take 4)).getD 3 0) 1152921504606846975),l128)) (p.length-3) n 3 [] (by omega) (by simp) (Z3o 0)
  refine ⟨Z4h (wr (List.replicate 4 0) 0 (p.take 4)) 3 (Z4 .and .u64 ((wr (List.replicate 4 0) 0 (p.take 4)).getD 3 0) 1152921504606846975),l',?_,Z97 hw0 (Zke _ _),h2,by simpa using h1⟩
  simp only [Z4o,Ze,Z2f]
  rw [hn]
  exact e
theorem Zl9:W64 [6346243789798364141,1503914060200516822]:=Zgb (by decide)
theorem Z9u {l:List Int} (n:Nat) {i:Nat} {a:List (List Int)} {k:List (List Int)→Option (List Int)} (hi:i<4) (hl:W64 l) (h4:4≤l.length) (hb:l.length<1000) (ha : ∀ i,W64 (a.getD i (List.replicate 4 0))) :
    ∃ l' a',Z0o k (n+1) l (i:Int) a=Z0o k n l' ((i+1:Nat):Int) a'∧W64 l'∧l'.length=l.length-1∧(∀ i,W64 (a'.getD i (List.replicate 4 0))):=by
  obtain ⟨lo,h,e,w1,w2,w3⟩:=Zpv hl h4 (by omega)
  obtain ⟨s,c,e2,ws,_,_⟩:=Zdb (ha (i%2)) w1
  obtain ⟨t,e3,l3,wt⟩:=Zq2 w2 Zl9 (by simp; omega)
  have em:Int.tmod (i:Int) 2=((i%2:Nat):Int):=by rw [Int.tmod_eq_emod_of_nonneg (by omega)]; omega
  have e1:IntKind.wrap .i64 ((i:Int)+1)=((i+1:Nat):Int):=by rw [Zr (by omega) (by omega)]; rfl
  refine ⟨t,Zf7 (List.replicate 4 0) a (i%2) s,?_,wt,by rw [l3,w3]; simp; omega,?_⟩
  · rw [Z0o,Z31,Z21 (by simp; omega),Z3 e]
    simp only [Ze,em,e1,Int.toNat_natCast]
    rw [Z05 (Z2j (by omega) (by omega)),Z3 e2,Z05 (Z2j (by omega) (by omega)),Z9i,Z3 rfl,Z3 e3]
  · intro j
    rw [Z5l]
    split
    · exact ws
    · exact ha j
theorem Zn7 {p:List Int} (hp:W64 p) (h8:p.length=8) : ∃ r,Z35 p=some r∧W64 r∧0≤V4 r∧V4 r<VL:=by
  obtain ⟨n,hn⟩ : ∃ n,big=n+1+1+1+1+1:=⟨18446744073709551611,Z47⟩
  rw [Z35,Z2f,hn]
  have ha0 : ∀ i,W64 ((List.replicate 2 (List.replicate 4 0):List (List Int)).getD i (List.replicate 4 0)):=by
    intro i
    have:(List.replicate 2 (List.replicate 4 0):List (List Int)).getD i (List.replicate 4 0)=List.replicate 4 0:=by
      match i with
      | 0=>rfl
      | 1=>rfl
      | i+2=>rfl
    rw [this]; exact Z3o 4
  obtain ⟨l1,a1,f1,w1,n1,h1⟩:=Z9u (n+1+1+1+1) (i:=0) (k:=fun (a121:List (List Int))=>opt (Z42 G_order G_order) fun y239 =>
 bnd (a121.getD 0 (List.replicate 4 0)) fun x242 =>
 opt (Z42 x242 y239.1) fun y243 =>
 bnd (a121.getD 1 (List.replicate 4 0)) fun x246 =>
 opt (Z4n y243.1 x246) fun y247 =>
 opt (Z5o y247.1) fun y249 =>
 some y249) (by decide) hp (by omega) (by omega) ha0
  obtain ⟨l2,a2,f2,w2,n2,h2⟩:=Z9u (n+1+1+1) (i:=1) (k:=_) (by decide) w1 (by omega) (by omega) h1
  obtain ⟨l3,a3,f3,w3,n3,h3⟩:=Z9u (n+1+1) (i:=2) (k:=_) (by decide) w2 (by omega) (by omega) h2
  obtain ⟨l4,a4,f4,w4,n4,h4⟩:=Z9u (n+1) (i:=3) (k:=_) (by decide) w3 (by omega) (by omega) h3
  obtain ⟨g1,c1,q1,v1,_,_⟩:=Zdb Z96 Z96
  obtain ⟨g2,c2,q2,v2,_,_⟩:=Zdb (h4 0) v1
  obtain ⟨g3,c3,q3,v3,_,_⟩:=Zdt v2 (h4 1)
  obtain ⟨r,q4,v4,v5⟩:=Zhr v3
  refine ⟨r,?_,v4,(Za5 v4).1,by rw [v5]; exact Int.emod_lt_of_pos _ (by decide)⟩
  refine f1.trans (f2.trans (f3.trans (f4.trans ?_)))
  rw [Z0o,Z31,Z1h (by decide),Z3 q1,Ze,Z3 q2,Ze,Z3 q3,Z3 q4]
theorem tk8 (a b c d e f g h:Int):tk [a,b,c,d,e,f,g,h] 0 8 = [a,b,c,d,e,f,g,h]:=rfl
theorem Zmj (p:List Int) : ∃ r,Z79 p=some r∧Byt r∧r.length=32:=by
  rw [Z79,Z2f,Zmi]
  obtain ⟨r,e,w,_⟩:=Zn7 (p:=[Z4 .or .u64 (Z4 .or .u64 (Z4 .or .u64 (Z4 .or .u64 (Z4 .or .u64 (Z4 .or .u64 (Z4 .or .u64 (Z4 .or .u64 (0) (Zq .u64 (IntKind.wrap .u64 (p.getD 0 0)) 0)) (Zq .u64 (IntKind.wrap .u64 (p.getD 1 0)) 8)) (Zq .u64 (IntKind.wrap .u64 (p.getD 2 0)) 16)) (Zq .u64 (IntKind.wrap .u64 (p.getD 3 0)) 24)) (Zq .u64 (IntKind.wrap .u64 (p.getD 4 0)) 32)) (Zq .u64 (IntKind.wrap .u64 (p.getD 5 0)) 40)) (Zq .u64 (IntKind.wrap .u64 (p.getD 6 0)) 48)) (Zq .u64 (IntKind.wrap .u64 (p.getD 7 0)) 56),Z4 .or .u64 (Z4 .or .u64 (Z4 .or .u64 (Z4 .or .u64 (Z4 .or .u64 (Z4 .or .u64 (Z4 .or .u64 (Z4 .or .u64 (0) (Zq .u64 (IntKind.wrap .u64 (p.getD 8 0)) 0)) (Zq .u64 (IntKind.wrap .u64 (p.getD 9 0)) 8)) (Zq .u64 (IntKind.wrap .u64 (p.getD 10 0)) 16)) (Zq .u64 (IntKind.wrap .u64 (p.getD 11 0)) 24)) (Zq .u64 (IntKind.wrap .u64 (p.getD 12 0)) 32)) (Zq .u64 (IntKind.wrap .u64 (p.getD 13 0)) 40)) (Zq .u64 (IntKind.wrap .u64 (p.getD 14 0)) 48)) (Zq .u64 (IntKind.wrap .u64 (p.getD 15 0)) 56),Z4 .or .u64 (Z4 .or .u64 (Z4 .or .u64 (Z4 .or .u64 (Z4 .or .u64 (Z4 .or .u64 (Z4 .or .u64 (Z4 .or .u64 (0) (Zq .u64 (IntKind.wrap .u64 (p.getD 16 0)) 0)) (Zq .u64 (IntKind.wrap .u64 (p.getD 17 0)) 8)) (Zq .u64 (IntKind.wrap .u64 (p.getD 18 0)) 16)) (Zq .u64 (IntKind.wrap .u64 (p.getD 19 0)) 24)) (Zq .u64 (IntKind.wrap .u64 (p.getD 20 0)) 32)) (Zq .u64 (IntKind.wrap .u64 (p.getD 21 0)) 40)) (Zq .u64 (IntKind.wrap .u64 (p.getD 22 0)) 48)) (Zq .u64 (IntKind.wrap .u64 (p.getD 23 0)) 56),Z4 .or .u64 (Z4 .or .u64 (Z4 .or .u64 (Z4 .or .u64 (Z4 .or .u64 (Z4 .or .u64 (Z4 .or .u64 (Z4 .or .u64 (0) (Zq .u64 (IntKind.wrap .u64 (p.getD 24 0)) 0)) (Zq .u64 (IntKind.wrap .u64 (p.getD 25 0)) 8)) (Zq .u64 (IntKind.wrap .u64 (p.getD 26 0)) 16)) (Zq .u64 (IntKind.wrap .u64 (p.getD 27 0)) 24)) (Zq .u64 (IntKind.wrap .u64 (p.getD 28 0)) 32)) (Zq .u64 (IntKind.wrap .u64 (p.getD 29 0)) 40)) (Zq .u64 (IntKind.wrap .u64 (p.getD 30 0)) 48)) (Zq .u64 (IntKind.wrap .u64 (p.getD 31 0)) 56),Z4 .or .u64 (Z4 .or .u64 (Z4 .or .u64 (Z4 .or .u64 (Z4 .or .u64 (Z4 .or .u64 (Z4 .or .u64 (Z4 .or .u64 (0) (Zq .u64 (IntKind.wrap .u64 (p.getD 32 0)) 0)) (Zq .u64 (IntKind.wrap .u64 (p.getD 33 0)) 8)) (Zq .u64 (IntKind.wrap .u64 (p.getD 34 0)) 16)) (Zq .u64 (IntKind.wrap .u64 (p.getD 35 0)) 24)) (Zq .u64 (IntKind.wrap .u64 (p.getD 36 0)) 32)) (Zq .u64 (IntKind.wrap .u64 (p.getD 37 0)) 40)) (Zq .u64 (IntKind.wrap .u64 (p.getD 38 0)) 48)) (Zq .u64 (IntKind.wrap .u64 (p.getD 39 0)) 56),Z4 .or .u64 (Z4 .or .u64 (Z4 .or .u64 (Z4 .or .u64 (Z4 .or .u64 (Z4 .or .u64 (Z4 .or .u64 (Z4 .or .u64 (0) (Zq .u64 (IntKind.wrap .u64 (p.getD 40 0)) 0)) (Zq .u64 (IntKind.wrap .u64 (p.getD 41 0)) 8)) (Zq .u64 (IntKind.wrap .u64 (p.getD 42 0)) 16)) (Zq .u64 (IntKind.wrap .u64 (p.getD 43 0)) 24)) (Zq .u64 (IntKind.wrap .u64 (p.getD 44 0)) 32)) (Zq .u64 (IntKind.wrap .u64 (p.getD 45 0)) 40)) (Zq .u64 (IntKind.wrap .u64 (p.getD 46 0)) 48)) (Zq .u64 (IntKind.wrap .u64 (p.getD 47 0)) 56),Z4 .or .u64 (Z4 .or .u64 (Z4 .or .u64 (Z4 .or .u64 (Z4 .or .u64 (Z4 .or .u64 (Z4 .or .u64 (Z4 .or .u64 (0) (Zq .u64 (IntKind.wrap .u64 (p.getD 48 0)) 0)) (Zq .u64 (IntKind.wrap .u64 (p.getD 49 0)) 8)) (Zq .u64 (IntKind.wrap .u64 (p.getD 50 0)) 16)) (Zq .u64 (IntKind.wrap .u64 (p.getD 51 0)) 24)) (Zq .u64 (IntKind.wrap .u64 (p.getD 52 0)) 32)) (Zq .u64 (IntKind.wrap .u64 (p.getD 53 0)) 40)) (Zq .u64 (IntKind.wrap .u64 (p.getD 54 0)) 48)) (Zq .u64 (IntKind.wrap .u64 (p.getD 55 0)) 56),Z4 .or .u64 (Z4 .or .u64 (Z4 .or .u64 (Z4 .or .u64 (Z4 .or .u64 (Z4 .or .u64 (Z4 .or .u64 (Z4 .or .u64 (0) (Zq .u64 (IntKind.wrap .u64 (p.getD 56 0)) 0)) (Zq .u64 (IntKind.wrap .u64 (p.getD 57 0)) 8)) (Zq .u64 (IntKind.wrap .u64 (p.getD 58 0)) 16)) (Zq .u64 (IntKind.wrap .u64 (p.getD 59 0)) 24)) (Zq .u64 (IntKind.wrap .u64 (p.getD 60 0)) 32)) (Zq .u64 (IntKind.wrap .u64 (p.getD 61 0)) 40)) (Zq .u64 (IntKind.wrap .u64 (p.getD 62 0)) 48)) (Zq .u64 (IntKind.wrap .u64 (p.getD 63 0)) 56)]) (Zgb (by
    repeat' (first | exact Zjg _ _ | exact List.forall_mem_nil _ | refine List.forall_mem_cons.2 ⟨?_,?_⟩))) rfl
  obtain ⟨s,e2,b⟩:=Zpz r
  refine ⟨s,?_,b⟩
  rw [tk8,Z3 e,Z3 e2]
def pV (l:List Int):Nat→Int
  | 0=>0
  | n+1=>pV l n+l.getD n 0*(18446744073709551616:Int)^n
theorem Z7v (l:List Int) (n:Nat):pV l (n+1)=pV l n+l.getD n 0*(18446744073709551616:Int)^n:=rfl
theorem Zjj (l:List Int) (i:Nat) (v:Int) : ∀ n,n≤i→pV (Zf7 0 l i v) n=pV l n
  | 0,_=>rfl
  | n+1,h=>by rw [Z7v,Z7v,Zjj l i v n (by omega),Z5l,if_neg (by omega)]
theorem Zp5 (l:List Int) (i:Nat) (v:Int) : ∀ n,i<n→pV (Zf7 0 l i v) n=pV l n+(v-l.getD i 0)*(18446744073709551616:Int)^i
  | 0,h=>by omega
  | n+1,h=>by
    rw [Z7v,Z7v,Z5l]
    by_cases hi:n=i
    · subst hi
      rw [if_pos rfl,Zjj l n v n (Nat.le_refl _),Int.sub_mul]
      omega
    · rw [if_neg hi,Zp5 l i v n (by omega)]
      omega
theorem Zp6 {l:List Int} {m:Nat} (h : ∀ t,m≤t→l.getD t 0=0) : ∀ n,m≤n→pV l n=pV l m
  | 0,hn=>by rw [show m=0 by omega]
  | n+1,hn=>by
    by_cases e:m=n+1
    · rw [e]
    · rw [Z7v,h n (by omega),Zp6 h n (by omega)]; omega
theorem Zji (n m:Nat):pV (List.replicate m 0) n=0:=by
  induction n with
  | zero=>rfl
  | succ n ih =>
    have:(List.replicate m (0:Int)).getD n 0=0:=by
      simp only [List.getD]
      cases hi:(List.replicate m (0:Int))[n]? with
      | none=>rfl
      | some v=>simpa using (List.mem_replicate.1 (List.mem_of_getElem? hi)).2
    rw [Z7v,ih,this]; omega
theorem Zp8 (n:Nat):0<(18446744073709551616:Int)^n:=Int.pow_pos (by decide)
theorem Zt3 {l:List Int} (h:W64 l) : ∀ n,0≤pV l n∧pV l n<(18446744073709551616:Int)^n
  | 0=>by show (0:Int)≤0∧(0:Int)<1; omega
  | n+1=>by
    have ih:=Zt3 h n
    have h1:=h n
    have hp:=Zp8 n
    rw [Z7v,Int.pow_succ]
    generalize (18446744073709551616:Int)^n=w at *
    generalize l.getD n 0=x at *
    generalize pV l n=v at *
    have a:0≤x*w:=Int.mul_nonneg h1.1 (by omega)
    have b:x*w≤18446744073709551615*w:=Int.mul_le_mul_of_nonneg_right (by omega) (by omega)
    omega
theorem Zo1 {z q o c:Int} (hz:0≤z∧z<18446744073709551616) (hq:0≤q∧q<18446744073709551616) (ho:0≤o∧o<18446744073709551616) (hc:0≤c∧c<18446744073709551616) :
    ∃ n,IntKind.wrap .u64 (IntKind.wrap .u64 (z*q / 18446744073709551616+Zbp (z*q%18446744073709551616) o 0)+Zbp (Z8b (z*q%18446744073709551616) o 0) c 0)=n∧0≤n∧n<18446744073709551616∧Z8b (Z8b (z*q%18446744073709551616) o 0) c 0+n*18446744073709551616=z*q+o+c:=by
  have h0:0≤z*q:=Int.mul_nonneg hz.1 hq.1
  have h1:z*q≤18446744073709551615*18446744073709551615:=Int.mul_le_mul (by omega) (by omega) hq.1 (by omega)
  generalize z*q=p at *
  refine ⟨_,rfl,?_⟩
  unfold Z8b Zbp
  have e1:IntKind.wrap .u64 (p / 18446744073709551616+(p%18446744073709551616+o+0) / 18446744073709551616)=p / 18446744073709551616+(p%18446744073709551616+o+0) / 18446744073709551616:=Zv (by omega) (by omega)
  rw [e1]
  rw [Zv (by omega) (by omega)]
  omega
theorem Zk2 {q:List Int} (hq:W64 q) {i:Nat} {z:Int} (hz:0≤z∧z<18446744073709551616) {L:Nat} (hL:i+q.length≤L) (hb:L<1000000) (m:Nat) : ∀ (n:Nat) (j:Nat) (l:List Int) (c:Int),j+m=q.length→l.length=L→W64 l→(0≤c∧c<18446744073709551616) →
    ∃ l' c',(∀ k,Z1f q (i:Int) z k (n+1+m) l c (j:Int)=k l' c')∧l'.length=L∧W64 l'∧(0≤c'∧c'<18446744073709551616) ∧
      pV l' L+c'*(18446744073709551616:Int)^(i+q.length)+z*pV q j*(18446744073709551616:Int)^i=pV l L+c*(18446744073709551616:Int)^(i+j)+z*pV q q.length*(18446744073709551616:Int)^i∧(∀ t,i+q.length≤t→l'.getD t 0=l.getD t 0):=by
  induction m with
  | zero =>
    intro n j l c hj hl hw hc
    refine ⟨l,c,fun k=>?_,hl,hw,hc,?_,fun _ _=>rfl⟩
    · rw [Nat.add_zero,Z1f,Z3g,Z1h (by simp; omega)]
    · rw [show j=q.length by omega]
  | succ m ih =>
    intro n j l c hj hl hw hc
    have hqj:=hq j
    have hmul:=Zi0 hz hqj
    have hlj:=hw (i+j)
    have hp:0≤z*q.getD j 0:=Int.mul_nonneg hz.1 hqj.1
    have e1:IntKind.wrap .i64 ((i:Int)+(j:Int))=((i+j:Nat):Int):=by rw [Zr (by omega) (by omega)]; omega
    have e2:IntKind.wrap .i64 ((j:Int)+1)=((j+1:Nat):Int):=by rw [Zr (by omega) (by omega)]; rfl
    have hj':j<q.length:=by omega
    have hbr:decide ((j:Int)<(q.length:Int))=true:=by simp; omega
    have hlo:0≤z*q.getD j 0%18446744073709551616:=by omega
    obtain ⟨c1,ec,c1a,c1b,ev⟩:=Zo1 hz hqj hlj hc
    obtain ⟨l',c',e,h1,h2,h3,h4,h5⟩:=ih n (j+1) (Zf7 0 l (i+j) (Z8b (Z8b (z*q.getD j 0%18446744073709551616) (l.getD (i+j) 0) 0) c 0)) c1 (by omega) (by rw [Zax (by omega),List.length_set,hl]) (Zf9 hw (Zdi _ _ _)) ⟨c1a,c1b⟩
    refine ⟨l',c',fun k=>?_,h1,h2,h3,?_,?_⟩
    · rw [← Nat.add_assoc,Z1f,Z3g,Z21 hbr,Z05 (Z2j (by omega) (by omega)),Ze]
      simp only [Int.toNat_natCast]
      rw [Z3 hmul,Ze,e1,Z05 (Z2j (by omega) (by omega)),Ze]
      simp only [Int.toNat_natCast]
      rw [Z05 (Zfb hlo hlj.1),Ze,Ze,Ze,Z05 (Zfb (Zdi _ _ _).1 hc.1),Ze,Ze,Ze,Ze,Z05 (Z2j (by omega) (by omega)),Ze,Ze,e2,ec]
      exact e k
    · rw [Zp5 _ _ _ _ (by omega),Z7v,← Nat.add_assoc,Int.pow_succ,Int.pow_add 18446744073709551616 i j] at h4
      rw [Int.pow_add 18446744073709551616 i j]
      generalize (18446744073709551616:Int)^(i+q.length)=w1 at *
      generalize (18446744073709551616:Int)^i=w2 at *
      generalize (18446744073709551616:Int)^j=w3 at *
      generalize Z8b (Z8b (z*q.getD j 0%18446744073709551616) (l.getD (i+j) 0) 0) c 0=lo at *
      generalize q.getD j 0=qj at *
      generalize l.getD (i+j) 0=o at *
      generalize pV l' L=a1 at *
      generalize pV l L=a2 at *
      generalize pV q j=a3 at *
      generalize pV q q.length=a4 at *
      clear e ec ih
      grind -lia -linarith (splits:=0)
    · intro t ht
      rw [h5 t ht,Z5l,if_neg (by omega)]
theorem Zk3 {p q:List Int} (hp:W64 p) (hq:W64 q) {L:Nat} (hL:p.length+q.length=L) (hb:L<1000000) (m:Nat) : ∀ (n:Nat) (i:Nat) (l:List Int),i+m=p.length→l.length=L→W64 l→(∀ t,i+q.length≤t→l.getD t 0=0)→pV l L=pV p i*pV q q.length →
    ∃ l',Z1e p q some (n+1+m) l (i:Int)=some l'∧l'.length=L∧W64 l'∧pV l' L=pV p p.length*pV q q.length:=by
  induction m with
  | zero =>
    intro n i l hi hl hw hz hv
    refine ⟨l,?_,hl,hw,by rw [hv,show i=p.length by omega]⟩
    rw [Nat.add_zero,Z1e,Z3f,Z1h (by simp; omega)]
  | succ m ih =>
    intro n i l hi hl hw hz hv
    have hbr:decide ((i:Int)<(p.length:Int))=true:=by simp; omega
    obtain ⟨n',hn⟩ : ∃ n',big=n'+1+q.length:=⟨18446744073709551615-q.length,by have:big=18446744073709551616:=Z47; omega⟩
    obtain ⟨l',c',e,hl',hw',hc',v',z'⟩:=Zk2 hq (i:=i) (hp i) (L:=L) (by omega) hb q.length n' 0 l 0 (by omega) hl hw (by decide)
    have e1:IntKind.wrap .i64 ((i:Int)+(q.length:Int))=((i+q.length:Nat):Int):=by rw [Zr (by omega) (by omega)]; omega
    have e2:IntKind.wrap .i64 ((i:Int)+1)=((i+1:Nat):Int):=by rw [Zr (by omega) (by omega)]; rfl
    have hz0:l'.getD (i+q.length) 0=0:=by rw [z' _ (Nat.le_refl _),hz _ (Nat.le_refl _)]
    obtain ⟨l2,e3,hl2,hw2,v2⟩:=ih n (i+1) (Zf7 0 l' (i+q.length) c') (by omega) (by rw [Zax (by omega),List.length_set,hl']) (Zf9 hw' hc') (by
      intro t ht
      rw [Z5l,if_neg (by omega),z' t (by omega),hz t (by omega)]) (by
      rw [Zp5 _ _ _ _ (by omega),hz0,Z7v]
      rw [hv] at v'
      have e0:pV q 0=0:=rfl
      rw [e0] at v'
      generalize (18446744073709551616:Int)^(i+q.length)=w1 at *
      generalize (18446744073709551616:Int)^i=w2 at *
      generalize pV l' L=a1 at *
      generalize pV q q.length=a4 at *
      generalize pV p i=a5 at *
      generalize p.getD i 0=a6 at *
      clear e ih
      grind -lia -linarith (splits:=0))
    refine ⟨l2,?_,hl2,hw2,v2⟩
    rw [← Nat.add_assoc,Z1e,Z3f,Z21 hbr,Z05 (Z2j (by omega) (by omega)),Ze,Z2f]
    simp only [Int.toNat_natCast]
    rw [hn]
    refine (e _).trans ?_
    simp only [Ze,e1,e2]
    rw [Z05 (Z2j (by omega) (by omega))]
    exact e3
theorem Zk4 {p q:List Int} (hp:W64 p) (hq:W64 q) (hb:p.length+q.length<1000000) : ∃ r,Z4q p q=some r∧r.length=p.length+q.length∧W64 r∧pV r r.length=pV p p.length*pV q q.length:=by
  have e1:IntKind.wrap .i64 ((p.length:Int)+(q.length:Int))=((p.length+q.length:Nat):Int):=by rw [Zr (by omega) (by omega)]; omega
  obtain ⟨n,hn⟩ : ∃ n',big=n'+1+p.length:=⟨18446744073709551615-p.length,by have:big=18446744073709551616:=Z47; omega⟩
  obtain ⟨r,e,h1,h2,h3⟩:=Zk3 hp hq (L:=p.length+q.length) rfl hb p.length n 0 (List.replicate (p.length+q.length) 0) (by omega) (by simp) (Z3o _) (by
    intro t _
    simp only [List.getD]
    cases hi:(List.replicate (p.length+q.length) (0:Int))[t]? with
    | none=>rfl
    | some v=>simpa using (List.mem_replicate.1 (List.mem_of_getElem? hi)).2) (by
    rw [Zji]
    show 0=0*_
    omega)
  refine ⟨r,?_,h1,h2,by rw [h1]; exact h3⟩
  rw [Z4q,Ze,e1,Z05 (by unfold mkB; simp; omega),Z2f,Int.toNat_natCast,hn]
  exact e
theorem Zm6 (x:Int):Zh .u64 x 60=x / 1152921504606846976:=by
  have:=Zc8 .u64 (x:=x) (n:=60) (by decide)
  simpa using this
theorem Zvx (x:Int):Zq .u64 x 4=(x*16)%18446744073709551616:=by
  have:=Zew .u64 (x:=x) (n:=4) (by decide); rw [Zcc] at this; simpa using this
theorem Zop {x y:Int} (hx:0≤x∧x<18446744073709551616) (hy:0≤y∧y<18446744073709551616):Z4 .or .u64 (Zh .u64 x 60) (Zq .u64 y 4)=x / 1152921504606846976+y%1152921504606846976*16:=by
  rw [Zm6,Zvx]
  have e:y*16%18446744073709551616=y%1152921504606846976*16:=by omega
  rw [e]
  exact Z0d 4 (x:=y%1152921504606846976*16) (a:=y%1152921504606846976) rfl (by omega) (by omega) (by
    show _<(16:Int)
    omega) (by omega)
theorem Zy0 (l:List Int) (v:Int):pV (l ++ [v]) l.length=pV l l.length:=by
  have h : ∀ n,n≤l.length→pV (l ++ [v]) n=pV l n:=by
    intro n
    induction n with
    | zero=>intro _; rfl
    | succ n ih =>
      intro hn
      have:(l ++ [v]).getD n 0=l.getD n 0:=by simp [List.getD_eq_getElem?_getD,List.getElem?_append_left (show n<l.length by omega)]
      rw [Z7v,Z7v,ih (by omega),this]
  exact h _ (Nat.le_refl _)
theorem Zva (l:List Int) (v:Int):pV (l ++ [v]) (l ++ [v]).length=pV l l.length+v*(18446744073709551616:Int)^l.length:=by
  have e:(l ++ [v]).length=l.length+1:=by simp
  rw [e,Z7v,Zy0]
  have:(l ++ [v]).getD l.length 0=v:=by simp [List.getD_eq_getElem?_getD]
  rw [this]
theorem Zpu (x d r y w2 w3 b1 b2 b3:Int) {b4:Int} (hx:1152921504606846976*d+r=x)
    (h:b1+w3*1152921504606846976*(b2+(d+y*16)*w2)=b4+x*(w3*w2)+y*(w3*w2*18446744073709551616)+w3*1152921504606846976*b3) :
    b1+w3*1152921504606846976*b2=b4+r*(w3*w2)+w3*1152921504606846976*b3:=by grind -lia -linarith (splits:=0)
theorem Zl0 {p:List Int} (hp:W64 p) (hb:p.length<1000000) {k:List Int→Option (List Int×List Int)} (m:Nat) : ∀ (n i:Nat) (l:List Int),3+i+m=p.length→l.length=i→W64 l →
    ∃ l',Z0r p k (n+1+m) l ((3+i:Nat):Int)=k l'∧l'.length=i+m∧W64 l' ∧
      pV p p.length+7237005577332262213973186563042994240829374041602535252466099000494570602496*pV l l.length=pV p (3+i)+p.getD (3+i) 0%1152921504606846976*(18446744073709551616:Int)^(3+i)+7237005577332262213973186563042994240829374041602535252466099000494570602496*pV l' l'.length:=by
  induction m with
  | zero =>
    intro n i l hi hl hw
    refine ⟨l,?_,by omega,hw,?_⟩
    · rw [Nat.add_zero,Z0r,Z1p,Z1h (by simp; omega)]
    · have e:p.getD (3+i) 0=0:=by simp [List.getD_eq_getElem?_getD,List.getElem?_eq_none (show p.length≤3+i by omega)]
      rw [e,show 3+i=p.length by omega]
      omega
  | succ m ih =>
    intro n i l hi hl hw
    have hbr:decide (((3+i:Nat):Int)<(p.length:Int))=true:=by simp; omega
    have e2:IntKind.wrap .i64 (((3+i:Nat):Int)+1)=((3+(i+1):Nat):Int):=by rw [Zr (by omega) (by omega)]; omega
    have hs:=Zjv (hp (3+i))
    have e3:((3+(i+1):Nat):Int).toNat=3+i+1:=by omega
    have hw3:(18446744073709551616:Int)^3*1152921504606846976=7237005577332262213973186563042994240829374041602535252466099000494570602496:=by decide
    have fin : ∀ (w:Int) (l':List Int),w=p.getD (3+i) 0 / 1152921504606846976+p.getD (3+i+1) 0%1152921504606846976*16 →
        pV p p.length+7237005577332262213973186563042994240829374041602535252466099000494570602496*pV (l ++ [w]) (l ++ [w]).length=pV p (3+(i+1))+p.getD (3+(i+1)) 0%1152921504606846976*(18446744073709551616:Int)^(3+(i+1))+7237005577332262213973186563042994240829374041602535252466099000494570602496*pV l' l'.length →
        pV p p.length+7237005577332262213973186563042994240829374041602535252466099000494570602496*pV l l.length=pV p (3+i)+p.getD (3+i) 0%1152921504606846976*(18446744073709551616:Int)^(3+i)+7237005577332262213973186563042994240829374041602535252466099000494570602496*pV l' l'.length:=by
      intro w l' hw' h
      rw [Zva,hl,← Nat.add_assoc,Z7v,Int.pow_succ,Int.pow_add 18446744073709551616 3 i,hw',← hw3] at h
      rw [hl,Int.pow_add 18446744073709551616 3 i,← hw3]
      exact Zpu _ _ _ _ _ _ _ _ _ (Int.mul_ediv_add_emod (p.getD (3+i) 0) 1152921504606846976) h
    by_cases h:3+i+1<p.length
    · obtain ⟨l',e,h1,h2,h3⟩:=ih n (i+1) (l ++ [Z4 .or .u64 (Zh .u64 (p.getD (3+i) 0) 60) (Zq .u64 (p.getD (3+i+1) 0) 4)]) (by omega) (by simp; omega) (Zhk hw (Zhl (Zjg _ _)))
      refine ⟨l',?_,by omega,h2,fin _ _ (Zop (hp _) (hp _)) h3⟩
      rw [← Nat.add_assoc,Z0r,Z1p,Z21 hbr,Z05 (Z2j (by omega) (by omega))]
      simp only [Ze,e2,Z2f,Int.toNat_natCast,e3]
      rw [Z21 (by simp; omega),Z05 (Z2j (by omega) (by omega))]
      rw [Z05 (by simp; omega)]
      exact e
    · obtain ⟨l',e,h1,h2,h3⟩:=ih n (i+1) (l ++ [Zh .u64 (p.getD (3+i) 0) 60]) (by omega) (by simp; omega) (Zhk hw (Zhl hs))
      have e0:p.getD (3+i+1) 0=0:=by simp [List.getD_eq_getElem?_getD,List.getElem?_eq_none (show p.length≤3+i+1 by omega)]
      refine ⟨l',?_,by omega,h2,fin _ _ (by rw [e0,Zm6]; omega) h3⟩
      rw [← Nat.add_assoc,Z0r,Z1p,Z21 hbr,Z05 (Z2j (by omega) (by omega))]
      simp only [Ze,e2,Z2f,Int.toNat_natCast]
      rw [Z1h (by simp; omega)]
      rw [Z05 (by simp; omega)]
      exact e
theorem Zhw {l:List Int} {i:Nat} (h:l.length≤i):l.getD i 0=0:=by simp [List.getD_eq_getElem?_getD,List.getElem?_eq_none h]
theorem Zp4 {l:List Int} {n:Nat} (h:l.length≤n):pV l n=pV l l.length:=Zp6 (fun t ht=>Zhw ht) n h
theorem Zpw {p:List Int} (hp:W64 p) (hb:p.length<1000000) : ∃ a h,Z4o p=some (a,h)∧W64 a∧W64 h∧h.length=p.length-3 ∧
    V4 a=pV p p.length%7237005577332262213973186563042994240829374041602535252466099000494570602496∧pV h h.length=pV p p.length / 7237005577332262213973186563042994240829374041602535252466099000494570602496:=by
  obtain ⟨n,hn⟩ : ∃ n',big=n'+1+(p.length-3):=⟨18446744073709551615-(p.length-3),by have:big=18446744073709551616:=Z47; omega⟩
  have hw0g : ∀ i,(wr (List.replicate 4 0) 0 (p.take 4)).getD i 0=if i<4 then p.getD i 0 else 0:=by
    intro i
    rw [Zl6]
    have hr:(List.replicate 4 (0:Int)).getD i 0=0:=by
      match i with
      | 0=>rfl
      | 1=>rfl
      | 2=>rfl
      | 3=>rfl
      | i+4=>rfl
    by_cases h:0≤i∧i<0+(p.take 4).length
    · rw [if_pos h]
      simp only [List.length_take] at h
      have h4':i<4:=by omega
      rw [if_pos h4']
      simp [List.getD_eq_getElem?_getD,List.getElem?_take,h4']
    · rw [if_neg h,hr]
      simp only [List.length_take] at h
      split
      · rw [Zhw (by omega)]
      · rfl
  have hw0:W64 (wr (List.replicate 4 0) 0 (p.take 4)):=by
    intro i
    rw [hw0g]
    split
    · exact hp i
    · decide
  have hmask:Z4 .and .u64 ((wr (List.replicate 4 0) 0 (p.take 4)).getD 3 0) 1152921504606846975=p.getD 3 0%1152921504606846976:=by
    rw [hw0g,if_pos (by decide)]
    exact Zhp 60 (by decide) (by decide) (hp 3).1 (hp 3).2
  have hlow:V4 (Z4h (wr (List.replicate 4 0) 0 (p.take 4)) 3 (Z4 .and .u64 ((wr (List.replicate 4 0) 0 (p.take 4)).getD 3 0) 1152921504606846975))=p.getD 0 0+p.getD 1 0*18446744073709551616+p.getD 2 0*340282366920938463463374607431768211456+(p.getD 3 0%1152921504606846976)*6277101735386680763835789423207666416102355444464034512896:=by
    unfold V4
    rw [hmask]
    simp only [Z8j,hw0g]
    simp
  have h3:pV p 3=p.getD 0 0+p.getD 1 0*18446744073709551616+p.getD 2 0*340282366920938463463374607431768211456:=by
    simp only [pV]
    omega
  have hr0:=hp 0
  have hr1:=hp 1
  have hr2:=hp 2
  have hr3:=hp 3
  by_cases hlen:3≤p.length
  · obtain ⟨l',e,h1,h2,h4⟩:=Zl0 hp hb (k:=fun l128=>some (Z4h (wr (List.replicate 4 0) 0 (p.take 4)) 3 (Z4 .and .u64 ((wr (List.replicate 4 0) 0 (p.take 4)).getD 3 0) 1152921504606846975),l128)) (p.length-3) n 0 [] (by omega) rfl (Z3o 0)
    refine ⟨(Z4h (wr (List.replicate 4 0) 0 (p.take 4)) 3 (Z4 .and .u64 ((wr (List.replicate 4 0) 0 (p.take 4)).getD 3 0) 1152921504606846975)),l',?_,Z97 hw0 (Zke _ _),h2,by omega,?_⟩
    · simp only [Z4o,Ze,Z2f]
      rw [hn]
      exact e
    · rw [hlow]
      rw [Nat.add_zero,h3] at h4
      have e0:pV ([]:List Int) ([]:List Int).length=0:=rfl
      have e3:(18446744073709551616:Int)^3=6277101735386680763835789423207666416102355444464034512896:=by decide
      rw [e0,e3] at h4
      generalize pV p p.length=X at *
      generalize pV l' l'.length=Y at *
      omega
  · have e3:p.getD 3 0=0:=Zhw (by omega)
    have hx:pV p p.length=pV p 3:=(Zp4 (by omega)).symm
    refine ⟨(Z4h (wr (List.replicate 4 0) 0 (p.take 4)) 3 (Z4 .and .u64 ((wr (List.replicate 4 0) 0 (p.take 4)).getD 3 0) 1152921504606846975)),[],?_,Z97 hw0 (Zke _ _),Z3o 0,by simp; omega,?_⟩
    · simp only [Z4o,Ze,Z2f]
      rw [hn,show p.length-3=0 by omega,Nat.add_zero,Z0r,Z1p,Z1h (by simp; omega)]
    · rw [hlow,hx,h3,e3]
      have e0:pV ([]:List Int) ([]:List Int).length=0:=rfl
      rw [e0]
      omega
theorem Z91 {l:List Int} (n:Nat) {i:Nat} {a:List (List Int)} (hi:i<4) (hl:W64 l) (hb:l.length<1000) (ha : ∀ i,W64 (a.getD i (List.replicate 4 0)))
    (hs:V4 (a.getD (i%2) (List.replicate 4 0))+pV l l.length%7237005577332262213973186563042994240829374041602535252466099000494570602496<B4) :
    ∃ l' a',(∀ k:List (List Int)→Option (List Int),Z0o k (n+1) l (i:Int) a=Z0o k n l' ((i+1:Nat):Int) a')∧W64 l'∧l'.length=l.length-3+2∧(∀ i,W64 (a'.getD i (List.replicate 4 0))) ∧
      pV l' l'.length=pV l l.length / 7237005577332262213973186563042994240829374041602535252466099000494570602496*27742317777372353535851937790883648493 ∧
      V4 (a'.getD (i%2) (List.replicate 4 0))=V4 (a.getD (i%2) (List.replicate 4 0))+pV l l.length%7237005577332262213973186563042994240829374041602535252466099000494570602496 ∧
      (∀ j,j≠i%2→a'.getD j (List.replicate 4 0)=a.getD j (List.replicate 4 0)):=by
  obtain ⟨lo,h,e,w1,w2,w3,v1,v2⟩:=Zpw hl (by omega)
  obtain ⟨s,c,e2,ws,hc,vs⟩:=Zdb (ha (i%2)) w1
  obtain ⟨t,e3,l3,wt,vt⟩:=Zk4 w2 Zl9 (by simp; omega)
  have em:Int.tmod (i:Int) 2=((i%2:Nat):Int):=by rw [Int.tmod_eq_emod_of_nonneg (by omega)]; omega
  have e1:IntKind.wrap .i64 ((i:Int)+1)=((i+1:Nat):Int):=by rw [Zr (by omega) (by omega)]; rfl
  refine ⟨t,Zf7 (List.replicate 4 0) a (i%2) s,?_,wt,by rw [l3,w3]; rfl,?_,?_,?_,?_⟩
  · intro k
    rw [Z0o,Z31,Z21 (by simp; omega),Z3 e]
    simp only [Ze,em,e1,Int.toNat_natCast]
    rw [Z05 (Z2j (by omega) (by omega)),Z3 e2,Z05 (Z2j (by omega) (by omega)),Z9i,Z3 rfl,Z3 e3]
  · intro j
    rw [Z5l]
    split
    · exact ws
    · exact ha j
  · rw [vt,v2]; rfl
  · rw [Z5l,if_pos rfl]
    have hr:=Za5 ws
    have hr2:=Za5 (ha (i%2))
    rw [← v1] at hs ⊢
    have hc0:c=0:=by
      unfold B4 at *
      rcases hc with h | h
      · exact h
      · exfalso; subst h; omega
    rw [vs,hc0]; omega
  · intro j hj
    rw [Z5l,if_neg hj]
theorem Zl8:V4 (List.replicate 4 0)=0:=by decide
theorem Zh8 {p:List Int} (hp:W64 p) (h8:p.length≤8) : ∃ r,Z35 p=some r∧W64 r∧V4 r=pV p p.length%VL:=by
  obtain ⟨n,hn⟩ : ∃ n,big=n+1+1+1+1+1:=⟨18446744073709551611,Z47⟩
  rw [Z35,Z2f,hn]
  have ha0 : ∀ i,(List.replicate 2 (List.replicate 4 0):List (List Int)).getD i (List.replicate 4 0)=List.replicate 4 0:=by
    intro i
    match i with
    | 0=>rfl
    | 1=>rfl
    | i+2=>rfl
  have hX:=Zt3 hp 8
  rw [Zp4 h8] at hX
  have e8:(18446744073709551616:Int)^8=13407807929942597099574024998205846127479365820592393377723561443721764030073546976801874298166903427690031858186486050853753882811946569946433649006084096:=by decide
  rw [e8] at hX
  obtain ⟨l1,a1,f1,w1,n1,h1,x1,s1,o1⟩:=Z91 (n+1+1+1+1) (i:=0) (l:=p) (a:=List.replicate 2 (List.replicate 4 0)) (by decide) hp (by omega) (by intro i; rw [ha0]; exact Z3o 4) (by
    rw [ha0,Zl8]
    generalize pV p p.length=X at *
    unfold B4
    omega)
  rw [ha0,Zl8] at s1
  have t1:=o1 1 (by decide)
  rw [ha0] at t1
  obtain ⟨l2,a2,f2,w2,n2,h2,x2,s2,o2⟩:=Z91 (n+1+1+1) (i:=1) (by decide) w1 (by omega) h1 (by
    rw [t1,Zl8]
    generalize pV l1 l1.length=X at *
    unfold B4
    omega)
  rw [t1,Zl8] at s2
  have t2:=o2 0 (by decide)
  obtain ⟨l3,a3,f3,w3,n3,h3,x3,s3,o3⟩:=Z91 (n+1+1) (i:=2) (by decide) w2 (by omega) h2 (by
    have e:a2.getD (2%2) (List.replicate 4 0)=a1.getD 0 (List.replicate 4 0):=t2
    have s1':V4 (a1.getD 0 (List.replicate 4 0))=_:=s1
    rw [e,s1']
    generalize pV p p.length=X at *
    generalize pV l2 l2.length=Y at *
    unfold B4
    omega)
  have t3:=o3 1 (by decide)
  obtain ⟨l4,a4,f4,w4,n4,h4,x4,s4,o4⟩:=Z91 (n+1) (i:=3) (by decide) w3 (by omega) h3 (by
    have e:a3.getD (3%2) (List.replicate 4 0)=a2.getD 1 (List.replicate 4 0):=t3
    have s2':V4 (a2.getD 1 (List.replicate 4 0))=_:=s2
    rw [e,s2']
    generalize pV l1 l1.length=X at *
    generalize pV l3 l3.length=Y at *
    unfold B4
    omega)
  have t4:=o4 0 (by decide)
  have v0:V4 (a4.getD 0 (List.replicate 4 0))=pV p p.length%7237005577332262213973186563042994240829374041602535252466099000494570602496+pV l2 l2.length%7237005577332262213973186563042994240829374041602535252466099000494570602496:=by
    have s3':V4 (a3.getD 0 (List.replicate 4 0))=V4 (a2.getD 0 (List.replicate 4 0))+_:=s3
    have s1':V4 (a1.getD 0 (List.replicate 4 0))=_:=s1
    rw [t4,s3',t2,s1']
    omega
  have v1:V4 (a4.getD 1 (List.replicate 4 0))=pV l1 l1.length%7237005577332262213973186563042994240829374041602535252466099000494570602496+pV l3 l3.length%7237005577332262213973186563042994240829374041602535252466099000494570602496:=by
    have s4':V4 (a4.getD 1 (List.replicate 4 0))=V4 (a3.getD 1 (List.replicate 4 0))+_:=s4
    have s2':V4 (a2.getD 1 (List.replicate 4 0))=_:=s2
    rw [s4',t3,s2']
    omega
  obtain ⟨g1,c1,q1,z1,hc1,y1⟩:=Zdb Z96 Z96
  obtain ⟨g2,c2,q2,z2,hc2,y2⟩:=Zdb (h4 0) z1
  obtain ⟨g3,c3,q3,z3,hc3,y3⟩:=Zdt z2 (h4 1)
  obtain ⟨r,q4,z4,y4⟩:=Zhr z3
  refine ⟨r,?_,z4,?_⟩
  · refine (f1 _).trans ((f2 _).trans ((f3 _).trans ((f4 _).trans ?_)))
    rw [Z0o,Z31,Z1h (by decide),Z3 q1,Ze,Z3 q2,Ze,Z3 q3,Z3 q4]
  · have r1:=Za5 z1
    have r2:=Za5 z2
    have r3:=Za5 z3
    rw [y4]
    rw [Zhj] at y1
    rw [v0] at y2
    rw [v1] at y3
    generalize V4 g1=G1 at *
    generalize V4 g2=G2 at *
    generalize V4 g3=G3 at *
    generalize pV p p.length=X at *
    generalize pV l1 l1.length=X1 at *
    generalize pV l2 l2.length=X2 at *
    generalize pV l3 l3.length=X3 at *
    clear f1 f2 f3 f4 q1 q2 q3 q4 e8
    unfold VL at *
    unfold B4 at *
    have k1:c1=0:=by rcases hc1 with h | h <;> omega
    subst k1
    have b1:X1<51397454971639728862728594851412511588645886491167898648663828096174877345658614143171087801555262538602929264263168:=by omega
    have b2:X2<197026866089141791222560432227205258386878298291626920115022677913390379788544:=by omega
    have b3:X3<776784897766425899003854258144742157804:=by omega
    have k2:c2=0:=by rcases hc2 with h | h <;> omega
    subst k2
    have k3:c3=0:=by rcases hc3 with h | h <;> omega
    subst k3
    have e:G3=X-7237005577332262213973186563042994240857116359379907606001950938285454250989*(X / 7237005577332262213973186563042994240829374041602535252466099000494570602496-X1 / 7237005577332262213973186563042994240829374041602535252466099000494570602496+X2 / 7237005577332262213973186563042994240829374041602535252466099000494570602496-2):=by omega
    rw [e,Int.sub_mul_emod_self_left]
end Go.Proofs.YtiflckckekjbnaaDoor
namespace Go.Proofs.YtiflckckekjbnaaDoor
set_option linter.all false
set_option maxRecDepth 100000
def Prm (n:Nat):Prop:=2≤n ∧ ∀ d,d∣n→d=1∨d=n
theorem Zt4 (n:Nat) : ∀ (m:Nat) (f:Nat→Nat),(∀ i,i<n→f i<m)→(∀ i j,i<n→j<n→f i=f j→i=j)→n≤m:=by
  induction n with
  | zero=>intros; omega
  | succ n ih =>
    intro m f h1 h2
    have hm:=h1 n (by omega)
    have:=ih (m-1) (fun i=>if f i=m-1 then f n else f i) (by
      intro i hi
      have a1:=h1 i (by omega)
      have a2:f i≠f n:=fun e=>by have:=h2 i n (by omega) (by omega) e; omega
      split <;> omega) (by
      intro i j hi hj e
      have a1:f i≠f n:=fun e=>by have:=h2 i n (by omega) (by omega) e; omega
      have a2:f j≠f n:=fun e=>by have:=h2 j n (by omega) (by omega) e; omega
      split at e <;> split at e
      · rename_i x y; exact h2 i j (by omega) (by omega) (x.trans y.symm)
      · exact absurd e.symm a2
      · exact absurd e a1
      · exact h2 i j (by omega) (by omega) e)
    omega
theorem surj {n:Nat} {f:Nat→Nat} (h1 : ∀ i,i<n→f i<n) (h2 : ∀ i j,i<n→j<n→f i=f j→i=j) {v:Nat} (hv:v<n) : ∃ i,i<n∧f i=v:=by
  false_or_by_contra
  rename_i hc
  have hc : ∀ i,i<n→f i≠v:=fun i hi e=>hc ⟨i,hi,e⟩
  have:=Zt4 (n+1) n (fun i=>if i=n then v else f i) (by
    intro i hi
    split
    · exact hv
    · exact h1 i (by omega)) (by
    intro i j hi hj e
    split at e <;> split at e
    · omega
    · exact absurd e.symm (hc j (by omega))
    · exact absurd e (hc i (by omega))
    · exact h2 i j (by omega) (by omega) e)
  omega
theorem Zff {a n e:Nat}:(a%n)^e%n=a^e%n:=by rw [← Nat.pow_mod]
def One (a m k:Nat):Prop:=a^k%m=1%m
theorem One.mul {a m k:Nat} (h:One a m k) (l:Nat):One a m (k*l):=by
  unfold One at *
  rw [Nat.pow_mul,Nat.pow_mod,h,← Nat.pow_mod,Nat.one_pow]
theorem One.rest {a m k l:Nat} (h:One a m k) (h2:One a m l):One a m (k%l):=by
  have h3:=h2.mul (k / l)
  unfold One at *
  have e:k=l*(k / l)+k%l:=(Nat.div_add_mod k l).symm
  rw [e,Nat.pow_add,Nat.mul_mod,h3,← Nat.mul_mod,Nat.one_mul] at h
  exact h
theorem One.gcd {a m:Nat} (k:Nat) : ∀ l,One a m k→One a m l→One a m (Nat.gcd k l):=by
  induction k using Nat.strongRecOn with
  | ind k ih =>
    intro l h h2
    by_cases hk:k=0
    · subst hk; rw [Nat.gcd_zero_left]; exact h2
    · rw [Nat.gcd_rec]
      exact ih (l%k) (Nat.mod_lt _ (by omega)) k (h2.rest h) h
def Zkt:List Nat→Nat
  | []=>1
  | r::rs=>r*Zkt rs
theorem Zlz {m:Nat} (hm:1<m) : ∀ (rs:List Nat),(∀ r∈rs,Prm r)→m∣Zkt rs→∃ r,r∈rs∧r∣m
  | [],_,h=>by
    have:=Nat.le_of_dvd (by decide) h
    simp [Zkt] at this
    omega
  | r::rs,hp,h=>by
    have hr:=hp r List.mem_cons_self
    rcases hr.2 (Nat.gcd m r) (Nat.gcd_dvd_right m r) with h1 | h1
    · have h2:m∣Zkt rs:=Nat.Coprime.dvd_of_dvd_mul_left h1 h
      obtain ⟨s,hs,hd⟩:=Zlz hm rs (fun x hx=>hp x (List.mem_cons_of_mem _ hx)) h2
      exact ⟨s,List.mem_cons_of_mem _ hs,hd⟩
    · exact ⟨r,List.mem_cons_self,by rw [← h1]; exact Nat.gcd_dvd_left m r⟩
theorem Zlv {a m n:Nat} {rs:List Nat} (hp : ∀ r∈rs,Prm r) (hn:Zkt rs=n) (h0:0<n) (h1:One a m n) (hr : ∀ r∈rs,¬ One a m (n / r)) {k:Nat} (hk:0<k) (hkn:k<n) : ¬ One a m k:=by
  intro h
  have hg:=One.gcd k n h h1
  have hd:Nat.gcd k n∣n:=Nat.gcd_dvd_right k n
  have hle:Nat.gcd k n≤k:=Nat.le_of_dvd hk (Nat.gcd_dvd_left k n)
  obtain ⟨q,hq⟩:=hd
  generalize Nat.gcd k n=g at *
  have hq1:1<q:=by
    rcases Nat.lt_or_ge 1 q with h | h
    · exact h
    · have:g*q≤g*1:=Nat.mul_le_mul_left g h
      omega
  obtain ⟨r,hrm,s,hs⟩:=Zlz hq1 rs hp (by rw [hn,hq]; exact Nat.dvd_mul_left q g)
  have hr0:0<r:=by have:=(hp r hrm).1; omega
  apply hr r hrm
  have e:n / r=g*s:=by
    rw [hq,hs,← Nat.mul_assoc,Nat.mul_comm g r,Nat.mul_assoc,Nat.mul_div_cancel_left _ hr0]
  rw [e]
  exact hg.mul s
theorem Zh5 {a m n:Nat} (h1:One a m n) (ho : ∀ k,0<k→k<n→¬ One a m k) {i j:Nat} (hi:i<n) (hj:j<n) (e:a^i%m=a^j%m):i=j:=by
  have key : ∀ i j,i<j→j<n→a^i%m=a^j%m→False:=by
    intro i j hij hj e
    apply ho (j-i) (by omega) (by omega)
    have e2:a^(n-i)*a^i%m=a^(n-i)*a^j%m:=by rw [Nat.mul_mod,e,← Nat.mul_mod]
    rw [← Nat.pow_add,← Nat.pow_add,show n-i+i=n by omega,show n-i+j=n+(j-i) by omega] at e2
    unfold One at h1 ⊢
    rw [h1,Nat.pow_add,Nat.mul_mod,h1,← Nat.mul_mod,Nat.one_mul] at e2
    exact e2.symm
  rcases Nat.lt_trichotomy i j with h | h | h
  · exact (key i j h hj e).elim
  · exact h
  · exact (key j i h hi e.symm).elim
theorem One.dvd {a m l k:Nat} (h:One a m k) (hl:l∣m):One a l k:=by
  unfold One at *
  obtain ⟨q,rfl⟩:=hl
  have:=congrArg (· % l) h
  simpa [Nat.mod_mul_right_mod] using this
theorem pock {n F c:Nat} {rs:List Nat} (h2:2≤n) (hp : ∀ r∈rs,Prm r) (hF:Zkt rs=F) (hF0:0<F) (hFn:n<F*F) (h1:One c n F) (hr : ∀ r∈rs,Nat.gcd (c^(F / r)%n+(n-1)) n=1):Prm n:=by
  have key : ∀ l,l∣n→2≤l→F≤l:=by
    intro l hl h2l
    have h1l:=h1.dvd hl
    have hol : ∀ k,0<k→k<F→¬ One c l k:=fun k hk hkF=>Zlv hp hF hF0 h1l (fun r hrm hone=>by
      have hg:=hr r hrm
      have hd:l∣c^(F / r)%n+(n-1):=by
        unfold One at hone
        have e1:c^(F / r)%n%l=1%l:=by
          obtain ⟨q,rfl⟩:=hl
          rw [Nat.mod_mul_right_mod]; exact hone
        obtain ⟨q,rfl⟩:=hl
        apply Nat.dvd_of_mod_eq_zero
        rw [Nat.add_mod,e1,← Nat.add_mod,show 1+(l*q-1)=l*q by omega,Nat.mul_mod_right]
      have:=Nat.dvd_gcd hd hl
      rw [hg] at this
      have:=Nat.le_of_dvd (by decide) this
      omega) hk hkF
    exact Zt4 F l (fun i=>c^i%l) (fun i _=>Nat.mod_lt _ (by omega)) (fun i j hi hj e=>Zh5 h1l hol hi hj e)
  refine ⟨h2,fun d hd=>?_⟩
  obtain ⟨q,hq⟩:=hd
  by_cases hd1:d=1
  · exact .inl hd1
  by_cases hq1:q=1
  · subst hq1; exact .inr (by omega)
  exfalso
  have hd0:d≠0:=fun h=>by subst h; simp at hq; omega
  have hq0:q≠0:=fun h=>by subst h; simp at hq; omega
  have a1:=key d ⟨q,hq⟩ (by omega)
  have a2:=key q ⟨d,by rw [hq,Nat.mul_comm]⟩ (by omega)
  have:=Nat.mul_le_mul a1 a2
  omega
def pm (m:Nat):Nat→Nat→Nat→Nat→Nat
  | 0,_,_,acc=>acc
  | f+1,a,e,acc=>pm m f (a*a%m) (e / 2) (if e%2=0 then acc else acc*a%m)
theorem Zvb (m f:Nat) : ∀ (a e acc:Nat),e<2^f→pm m f a e acc%m=acc*a^e%m:=by
  induction f with
  | zero => intro a e acc h; have : e = 0 := by simpa using h
            subst this; simp [pm]
  | succ f ih =>
    intro a e acc h
    have h2:e / 2<2^f:=by rw [Nat.pow_succ] at h; omega
    rw [pm,ih _ _ _ h2]
    have e1:e=2*(e / 2)+e%2:=(Nat.div_add_mod e 2).symm
    have e2:(a*a%m)^(e / 2)%m=a^(2*(e / 2))%m:=by rw [← Nat.pow_mod,← Nat.pow_two,← Nat.pow_mul]
    by_cases hz:e%2=0
    · rw [if_pos hz,Nat.mul_mod,e2,← Nat.mul_mod,show 2*(e / 2)=e by omega]
    · have e3:a^e=a*a^(2*(e / 2)):=by
        conv=>lhs; rw [e1,show e%2=1 by omega,Nat.pow_succ,Nat.mul_comm]
      rw [if_neg hz,Nat.mul_mod,e2,Nat.mod_mod,← Nat.mul_mod,e3,Nat.mul_assoc]
theorem Zt2 {a m e:Nat} (f:Nat) (h:e<2^f) (h1:(pm m f a e 1%m==1%m)=true):One a m e:=by
  have:=Zvb m f a e 1 h
  unfold One
  rw [Nat.one_mul] at this
  rw [← this]
  simpa using h1
def chkP (n F c:Nat) (rs:List Nat):Bool :=
  Nat.ble 2 n&&(Zkt rs==F)&&Nat.ble 1 F&&Nat.blt n (F*F)&&Nat.blt F (2^256)&&(pm n 256 c F 1%n==1%n)&&rs.all fun r=>Nat.blt (F / r) (2^256)&&Nat.gcd (pm n 256 c (F / r) 1%n+(n-1)) n==1
theorem Zjl {n F c:Nat} {rs:List Nat} (hp : ∀ r∈rs,Prm r) (h:chkP n F c rs=true):Prm n:=by
  unfold chkP at h
  simp only [Bool.and_eq_true,List.all_eq_true] at h
  obtain ⟨⟨⟨⟨⟨⟨h1,h2⟩,h3⟩,h4⟩,h5⟩,h6⟩,h7⟩:=h
  refine pock (F:=F) (c:=c) (rs:=rs) (Nat.le_of_ble_eq_true h1) hp (by simpa using h2) (Nat.le_of_ble_eq_true h3) (Nat.le_of_ble_eq_true h4) (Zt2 256 (Nat.le_of_ble_eq_true h5) h6) ?_
  intro r hr
  obtain ⟨a1,a2⟩:=h7 r hr
  have:=Zvb n 256 c (F / r) 1 (Nat.le_of_ble_eq_true a1)
  rw [Nat.one_mul] at this
  rw [← this]
  simpa using a2
def tryD (n:Nat):Nat→Nat→Bool
  | 0,_=>true
  | f+1,d => !(n%d==0)&&tryD n f (d+1)
theorem Zw7 (n f:Nat) : ∀ d,tryD n f d=true→∀ i,i<f→n%(d+i)≠0:=by
  induction f with
  | zero=>intros; omega
  | succ f ih =>
    intro d h i hi
    simp only [tryD,Bool.and_eq_true] at h
    cases i with
    | zero=>simpa using h.1
    | succ i=>have:=ih (d+1) h.2 i (by omega); rwa [show d+(i+1)=d+1+i by omega]
theorem Z8m (n f:Nat) (h:(Nat.ble 2 n&&tryD n f 2&&Nat.blt n ((f+2)*(f+2)))=true):Prm n:=by
  simp only [Bool.and_eq_true] at h
  obtain ⟨⟨h1,h2⟩,h3⟩:=h
  have h1:=Nat.le_of_ble_eq_true h1
  have h3:n<(f+2)*(f+2):=Nat.le_of_ble_eq_true h3
  have key : ∀ d,2≤d→d<f+2→¬ d∣n:=fun d a b hd=>by
    have:=Zw7 n f 2 h2 (d-2) (by omega)
    rw [show 2+(d-2)=d by omega] at this
    exact this (Nat.mod_eq_zero_of_dvd hd)
  refine ⟨h1,fun d hd=>?_⟩
  obtain ⟨q,hq⟩:=hd
  by_cases hd1:d=1
  · exact .inl hd1
  by_cases hq1:q=1
  · subst hq1; exact .inr (by omega)
  exfalso
  have hd0:d≠0:=fun h=>by subst h; simp at hq; omega
  have hq0:q≠0:=fun h=>by subst h; simp at hq; omega
  have a1:f+2≤d:=by
    rcases Nat.lt_or_ge d (f+2) with h | h
    · exact absurd ⟨q,hq⟩ (key d (by omega) h)
    · exact h
  have a2:f+2≤q:=by
    rcases Nat.lt_or_ge q (f+2) with h | h
    · exact absurd ⟨d,by rw [hq,Nat.mul_comm]⟩ (key q (by omega) h)
    · exact h
  have:=Nat.mul_le_mul a1 a2
  omega
theorem Ztl {P:Nat→Prop} {a:Nat} (h:P a) : ∀ r ∈ [a],P r:=by intro r hr; rw [List.mem_singleton] at hr; subst hr; exact h
theorem Zhn {P:Nat→Prop} {a b:Nat} (h:P a) (h2:P b) : ∀ r ∈ [a,b],P r:=by
  intro r hr
  simp only [List.mem_cons,List.not_mem_nil,or_false] at hr
  rcases hr with rfl | rfl
  · exact h
  · exact h2
theorem Zgn:Prm 2773320623:=Z8m 2773320623 52662 (by decide +kernel)
theorem Zfy:Prm 72106336199:=Zjl (F:=2773320623) (c:=67108864) (rs:=[2773320623]) (Ztl Zgn) (by decide +kernel)
theorem Zks:Prm 8574133:=Z8m 8574133 2928 (by decide +kernel)
theorem Zvc:Prm 127:=Z8m 127 11 (by decide +kernel)
theorem Zcx:Prm 1919519569386763:=Zjl (F:=1088914891) (c:=354538099852037) (rs:=[8574133,127]) (Zhn Zks Zvc) (by decide +kernel)
theorem Zn5:Prm 430751:=Z8m 430751 656 (by decide +kernel)
theorem Zrr:Prm 4153:=Z8m 4153 64 (by decide +kernel)
theorem Zc1:Prm 31757755568855353:=Zjl (F:=1788908903) (c:=26222887164197666) (rs:=[430751,4153]) (Zhn Zn5 Zrr) (by decide +kernel)
theorem Z5n:Prm 75445702479781427272750846543864801:=Zjl (F:=138409523410761641138333837) (c:=23520671056837248616447561120497838) (rs:=[1919519569386763,72106336199]) (Zhn Zcx Zfy) (by decide +kernel)
theorem Z1d:Prm 74058212732561358302231226437062788676166966415465897661863160754340907:=Zjl (F:=2395986178073482737347378734667165195040796357129753) (c:=32917242187670345156894797748588826076355976820526874250530785709567478) (rs:=[75445702479781427272750846543864801,31757755568855353]) (Zhn Z5n Zc1) (by decide +kernel)
abbrev pN:Nat:=57896044618658097711785492504343953926634992332820282019728792003956564819949
abbrev qN:Nat:=74058212732561358302231226437062788676166966415465897661863160754340907
theorem Zy3:Prm 2:=Z8m 2 0 (by decide +kernel)
theorem Z073:Prm 3:=Z8m 3 1 (by decide +kernel)
theorem Zpb:Prm 65147:=Z8m 65147 255 (by decide +kernel)
theorem Zp0 {a m e:Nat} (f:Nat) (h:e<2^f) (h1:(pm m f a e 1%m==1%m)=false) : ¬ One a m e:=by
  have:=Zvb m f a e 1 h
  intro h2
  unfold One at h2
  rw [Nat.one_mul,h2] at this
  rw [this] at h1
  simp at h1
theorem Ze0:One 2 pN (pN-1):=Zt2 256 (by decide +kernel) (by decide +kernel)
theorem Zn8 {k:Nat} (hk:0<k) (hk2:k<pN-1) : ¬ One 2 pN k:=by
  refine Zlv (rs:=[2,2,3,65147,qN]) ?_ (by decide +kernel) (by decide +kernel) Ze0 ?_ hk hk2
  · intro r hr
    simp only [List.mem_cons,List.not_mem_nil,or_false] at hr
    rcases hr with rfl | rfl | rfl | rfl | rfl
    · exact Zy3
    · exact Zy3
    · exact Z073
    · exact Zpb
    · exact Z1d
  · intro r hr
    simp only [List.mem_cons,List.not_mem_nil,or_false] at hr
    rcases hr with rfl | rfl | rfl | rfl | rfl
    all_goals exact Zp0 256 (by decide +kernel) (by decide +kernel)
theorem Zif {i:Nat} (hi:i<pN-1):2^i%pN≠0:=by
  intro h
  have h1:=Ze0
  unfold One at h1
  rw [show pN-1=i+(pN-1-i) by omega,Nat.pow_add,Nat.mul_mod,h,Nat.zero_mul,Nat.zero_mod] at h1
  exact absurd h1 (by decide +kernel)
theorem Zs0 {a:Nat} (ha:a%pN≠0) : ∃ i,i<pN-1∧2^i%pN=a%pN:=by
  have hlt : ∀ x,x%pN<pN:=fun x=>Nat.mod_lt _ (by decide +kernel)
  obtain ⟨i,hi,e⟩:=surj (n:=pN-1) (f:=fun i=>2^i%pN-1) (fun i hi=>by
    have:=hlt (2^i)
    have:=Zif hi
    omega) (fun i j hi hj e=>by
    have:=Zif hi
    have:=Zif hj
    exact Zh5 Ze0 (fun k a b=>Zn8 a b) hi hj (by omega)) (v:=a%pN-1) (by have:=hlt a; omega)
  refine ⟨i,hi,?_⟩
  have:=Zif hi
  omega
theorem Zod {a:Nat} (ha:a%pN≠0):One a pN (pN-1):=by
  obtain ⟨i,_,e⟩:=Zs0 ha
  have h:=Ze0.mul i
  unfold One at h ⊢
  rw [← Zff,← e,Zff,← Nat.pow_mul,Nat.mul_comm]
  exact h
theorem Zuv {a:Nat} (ha:a%pN≠0):a*a^(pN-2)%pN=1:=by
  have h:=Zod ha
  unfold One at h
  rw [show pN-1=(pN-2)+1 by decide +kernel,Nat.pow_succ,Nat.mul_comm] at h
  rw [h]
  decide +kernel
theorem Zv2 {d:Nat} (hd:(pm pN 256 d ((pN-1) / 2) 1%pN==1%pN)=false) (x:Nat) (hx:x%pN≠0):x*x%pN≠d%pN:=by
  intro e
  refine Zp0 256 (by decide +kernel) hd ?_
  have h:=Zod hx
  unfold One at h ⊢
  rw [← Zff,← e,Zff,← Nat.pow_two,← Nat.pow_mul,show 2*((pN-1) / 2)=pN-1 by decide +kernel]
  exact h
abbrev dN:Nat:=37095705934669439343138083508754565189542113879843219016388785533085940283555
theorem Zo6 (x:Nat) (hx:x%pN≠0):x*x%pN≠dN%pN:=Zv2 (by decide +kernel) x hx
abbrev F:=Fin pN
theorem Znn (a:F) (ha:a≠0) : ∃ i:F,a*i=1:=by
  have h0:a.val%pN≠0:=by
    intro h
    apply ha
    rw [Nat.mod_eq_of_lt a.isLt] at h
    exact Fin.ext h
  have h:=Zuv h0
  refine ⟨⟨a.val^(pN-2)%pN,Nat.mod_lt _ (by decide +kernel)⟩,Fin.ext ?_⟩
  rw [Fin.val_mul]
  show a.val*(a.val^(pN-2)%pN)%pN=_
  generalize a.val^(pN-2)=z at *
  rw [Nat.mul_mod,Nat.mod_mod,← Nat.mul_mod,h]
  decide +kernel
theorem Z85 {a b:F} (h:a*b=0):a=0∨b=0:=by
  by_cases ha:a=0
  · exact .inl ha
  · obtain ⟨i,hi⟩:=Znn a ha
    exact .inr (by grind -lia -linarith (splits:=0))
def dF:F:=⟨dN,by decide +kernel⟩
def iF:F:=⟨19681161376707505956807079304988542015446066515923890162744021073123829784752,by decide +kernel⟩
theorem Zxa:iF*iF+1=0:=by decide +kernel
theorem Ziy (s t:F) (h:s*s=dF*(t*t)):t=0:=by
  false_or_by_contra
  rename_i ht
  obtain ⟨i,hi⟩:=Znn t ht
  have hx:(s*i)*(s*i)=dF:=by grind -lia -linarith (splits:=0)
  have h1:(s*i).val*(s*i).val%pN=dN%pN:=by
    have:=congrArg Fin.val hx
    rw [Fin.val_mul] at this
    rw [this]
    decide +kernel
  by_cases hz:(s*i).val%pN=0
  · rw [Nat.mul_mod,hz] at h1
    exact absurd h1 (by decide +kernel)
  · exact Zo6 _ hz h1
structure On (x y:F):Prop where
  eq:y*y-x*x=1+dF*x*x*y*y
theorem Z028 (a:F) (h:a+a=0):a=0:=by
  obtain ⟨i,hi⟩:=Znn 2 (by decide +kernel)
  grind -lia -linarith (splits:=0)
theorem Zsp {x1 y1 x2 y2:F} (h1:On x1 y1) (h2:On x2 y2):dF*x1*x2*y1*y2*(dF*x1*x2*y1*y2)≠1:=by
  intro h3
  have e1:=h1.eq
  have e2:=h2.eq
  have hi:=Zxa
  obtain ⟨j,hj⟩ : ∃ j,j=iF:=⟨_,rfl⟩
  rw [← hj] at hi
  obtain ⟨d,hd⟩ : ∃ d,d=dF:=⟨_,rfl⟩
  have nr : ∀ s t:F,s*s=d*(t*t)→t=0:=by rw [hd]; exact Ziy
  rw [← hd] at e1 e2 h3
  clear hd hj h1 h2
  obtain ⟨e,he⟩ : ∃ e,e=d*x1*x2*y1*y2:=⟨_,rfl⟩
  rw [← he] at h3
  -- with u = j x the curve is u u + y y = 1 - d u u y y
  have a1:x1*y1*(j*x2+y2)=0:=by
    refine nr (j*x1+e*y1) _ ?_
    grind -lia -linarith (splits:=0)
  have a2:x1*y1*(j*x2-y2)=0:=by
    refine nr (j*x1-e*y1) _ ?_
    grind -lia -linarith (splits:=0)
  have n1:x1*y1≠0:=fun h=>absurd (show (1:F)=0 by grind -lia -linarith (splits:=0)) (by decide +kernel)
  have b1:=(Z85 a1).resolve_left n1
  have b2:=(Z85 a2).resolve_left n1
  have b3:y2=0:=Z028 y2 (by grind -lia -linarith (splits:=0))
  exact absurd (show (1:F)=0 by grind -lia -linarith (splits:=0)) (by decide +kernel)
noncomputable def Zlm (a:F):F:=if h:a=0 then 0 else Classical.choose (Znn a h)
theorem Z59 {a:F} (ha:a≠0):a*Zlm a=1:=by
  unfold Zlm
  rw [dif_neg ha]
  exact Classical.choose_spec (Znn a ha)
theorem Zqc {x1 y1 x2 y2:F} (h1:On x1 y1) (h2:On x2 y2):1+dF*x1*x2*y1*y2≠0:=by
  intro h
  refine Zsp h1 h2 ?_
  generalize dF*x1*x2*y1*y2=e at *
  grind -lia -linarith (splits:=0)
theorem Zqd {x1 y1 x2 y2:F} (h1:On x1 y1) (h2:On x2 y2):1-dF*x1*x2*y1*y2≠0:=by
  intro h
  refine Zsp h1 h2 ?_
  generalize dF*x1*x2*y1*y2=e at *
  grind -lia -linarith (splits:=0)
structure G where
  x:F
  y:F
  on:On x y
theorem Zmh {P Q:G} (hx:P.x=Q.x) (hy:P.y=Q.y):P=Q:=by
  cases P; cases Q
  simp only at hx hy
  subst hx; subst hy; rfl
theorem Zv6 (a b u v d:F) (h1:b*b-a*a=1+d*a*a*b*b) (h2:v*v-u*u=1+d*u*u*v*v) :
    (b*v+a*u)*(b*v+a*u)*(1+d*a*u*b*v)*(1+d*a*u*b*v)-(a*v+b*u)*(a*v+b*u)*(1-d*a*u*b*v)*(1-d*a*u*b*v)-(1+d*a*u*b*v)*(1+d*a*u*b*v)*(1-d*a*u*b*v)*(1-d*a*u*b*v)-d*(a*v+b*u)*(a*v+b*u)*(b*v+a*u)*(b*v+a*u)=0:=by
  grind -lia -linarith (splits:=0)
theorem Zv5 (A B C D i1 i2 d:F) (hB:B*i1=1) (hD:D*i2=1) (h:C*C*B*B-A*A*D*D-B*B*D*D-d*A*A*C*C=0) :
    C*i2*(C*i2)-A*i1*(A*i1)=1+d*(A*i1)*(A*i1)*(C*i2)*(C*i2):=by
  grind -lia -linarith (splits:=0)
noncomputable def Z8s (P Q:G):G :=
  ⟨(P.x*Q.y+P.y*Q.x)*Zlm (1+dF*P.x*Q.x*P.y*Q.y),(P.y*Q.y+P.x*Q.x)*Zlm (1-dF*P.x*Q.x*P.y*Q.y),
    ⟨Zv5 _ _ _ _ _ _ _ (Z59 (Zqc P.on Q.on)) (Z59 (Zqd P.on Q.on)) (Zv6 P.x P.y Q.x Q.y dF P.on.eq Q.on.eq)⟩⟩
def Z7i:G:=⟨0,1,⟨by decide +kernel⟩⟩
theorem Zip (P Q:G):Z8s P Q=Z8s Q P:=by
  have e1:dF*P.x*Q.x*P.y*Q.y=dF*Q.x*P.x*Q.y*P.y:=by generalize dF=d; grind -lia -linarith (splits:=0)
  refine Zmh ?_ ?_
  · show (P.x*Q.y+P.y*Q.x)*_=(Q.x*P.y+Q.y*P.x)*_
    rw [e1]; generalize Zlm _=i; grind -lia -linarith (splits:=0)
  · show (P.y*Q.y+P.x*Q.x)*_=(Q.y*P.y+Q.x*P.x)*_
    rw [e1]; generalize Zlm _=i; grind -lia -linarith (splits:=0)
theorem Zqk (a b u v x y d:F) (h1:b*b-a*a=1+d*a*a*b*b) (h2:v*v-u*u=1+d*u*u*v*v) (h3:y*y-x*x=1+d*x*x*y*y):((a*v+b*u)*(1-d*a*u*b*v)*y+(b*v+a*u)*(1+d*a*u*b*v)*x)*((1+d*u*x*v*y)*(1-d*u*x*v*y)+d*(u*y+v*x)*(v*y+u*x)*a*b)-((u*y+v*x)*(1-d*u*x*v*y)*b+(v*y+u*x)*(1+d*u*x*v*y)*a)*((1+d*a*u*b*v)*(1-d*a*u*b*v)+d*(a*v+b*u)*(b*v+a*u)*x*y)=0:=by
  grind -lia -linarith (splits:=0)
theorem Zql (a b u v x y d:F) (h1:b*b-a*a=1+d*a*a*b*b) (h2:v*v-u*u=1+d*u*u*v*v) (h3:y*y-x*x=1+d*x*x*y*y):((b*v+a*u)*(1+d*a*u*b*v)*y+(a*v+b*u)*(1-d*a*u*b*v)*x)*((1+d*u*x*v*y)*(1-d*u*x*v*y)-d*(u*y+v*x)*(v*y+u*x)*a*b)-((v*y+u*x)*(1+d*u*x*v*y)*b+(u*y+v*x)*(1-d*u*x*v*y)*a)*((1+d*a*u*b*v)*(1-d*a*u*b*v)-d*(a*v+b*u)*(b*v+a*u)*x*y)=0:=by
  grind -lia -linarith (splits:=0)
theorem Zx6 (A B C D A2 B2 C2 D2 i1 i2 i3 i4 x1 y1 x3 y3 d j k:F) (hB:B*i1=1) (hD:D*i2=1) (hB2:B2*i3=1) (hD2:D2*i4=1)
    (h:(A*D*y3+C*B*x3)*(B2*D2+d*A2*C2*x1*y1)-(A2*D2*y1+C2*B2*x1)*(B*D+d*A*C*x3*y3)=0) :
    (A*i1*y3+C*i2*x3)*(1+d*(A2*i3)*(C2*i4)*x1*y1)=(A2*i3*y1+C2*i4*x1)*(1+d*(A*i1)*(C*i2)*x3*y3):=by
  grind -lia -linarith (splits:=0)
theorem Zx7 (A B C D A2 B2 C2 D2 i1 i2 i3 i4 x1 y1 x3 y3 d j k:F) (hB:B*i1=1) (hD:D*i2=1) (hB2:B2*i3=1) (hD2:D2*i4=1)
    (h:(C*B*y3+A*D*x3)*(B2*D2-d*A2*C2*x1*y1)-(C2*B2*y1+A2*D2*x1)*(B*D-d*A*C*x3*y3)=0) :
    (C*i2*y3+A*i1*x3)*(1-d*(A2*i3)*(C2*i4)*x1*y1)=(C2*i4*y1+A2*i3*x1)*(1-d*(A*i1)*(C*i2)*x3*y3):=by
  grind -lia -linarith (splits:=0)
theorem Z032 (X Y U V x1 y1 x3 y3 d j k:F) (h:(X*y3+Y*x3)*(1+d*U*V*x1*y1)=(U*y1+V*x1)*(1+d*X*Y*x3*y3)) (hj:(1+d*X*x3*Y*y3)*j=1) (hk:(1+d*x1*U*y1*V)*k=1) :
    (X*y3+Y*x3)*j=(x1*V+y1*U)*k:=by grind -lia -linarith (splits:=0)
theorem Z033 (X Y U V x1 y1 x3 y3 d j k:F) (h:(Y*y3+X*x3)*(1-d*U*V*x1*y1)=(V*y1+U*x1)*(1-d*X*Y*x3*y3)) (hj:(1-d*X*x3*Y*y3)*j=1) (hk:(1-d*x1*U*y1*V)*k=1) :
    (Y*y3+X*x3)*j=(y1*V+x1*U)*k:=by grind -lia -linarith (splits:=0)
theorem Z7n (P Q R:G):Z8s (Z8s P Q) R=Z8s P (Z8s Q R):=by
  have b1:=Z59 (Zqc P.on Q.on)
  have b2:=Z59 (Zqd P.on Q.on)
  have b3:=Z59 (Zqc Q.on R.on)
  have b4:=Z59 (Zqd Q.on R.on)
  refine Zmh ?_ ?_
  · refine Z032 _ _ _ _ P.x P.y R.x R.y dF _ _ ?_ (Z59 (Zqc (Z8s P Q).on R.on)) (Z59 (Zqc P.on (Z8s Q R).on))
    exact Zx6 _ _ _ _ _ _ _ _ _ _ _ _ P.x P.y R.x R.y dF 0 0 b1 b2 b3 b4 (Zqk P.x P.y Q.x Q.y R.x R.y dF P.on.eq Q.on.eq R.on.eq)
  · refine Z033 _ _ _ _ P.x P.y R.x R.y dF _ _ ?_ (Z59 (Zqd (Z8s P Q).on R.on)) (Z59 (Zqd P.on (Z8s Q R).on))
    exact Zx7 _ _ _ _ _ _ _ _ _ _ _ _ P.x P.y R.x R.y dF 0 0 b1 b2 b3 b4 (Zql P.x P.y Q.x Q.y R.x R.y dF P.on.eq Q.on.eq R.on.eq)
theorem Zbo (P:G):Z8s P Z7i=P:=by
  have b1:=Z59 (Zqc P.on Z7i.on)
  have b2:=Z59 (Zqd P.on Z7i.on)
  have z1:Z7i.x=0:=rfl
  have z2:Z7i.y=1:=rfl
  refine Zmh ?_ ?_
  · show (P.x*Z7i.y+P.y*Z7i.x)*Zlm _=P.x
    generalize Zlm (1+dF*P.x*Z7i.x*P.y*Z7i.y)=i at *
    rw [z1,z2] at *
    generalize dF=d at *
    grind -lia -linarith (splits:=0)
  · show (P.y*Z7i.y+P.x*Z7i.x)*Zlm _=P.y
    generalize Zlm (1-dF*P.x*Z7i.x*P.y*Z7i.y)=i at *
    rw [z1,z2] at *
    generalize dF=d at *
    grind -lia -linarith (splits:=0)
theorem Zgd (P:G):Z8s Z7i P=P:=by rw [Zip,Zbo]
noncomputable def Zbn:Nat→G→G
  | 0,_=>Z7i
  | n+1,P=>Z8s (Zbn n P) P
theorem Zck (m n:Nat) (P:G):Zbn (m+n) P=Z8s (Zbn m P) (Zbn n P):=by
  induction n with
  | zero=>exact (Zbo _).symm
  | succ n ih =>
    show Z8s (Zbn (m+n) P) P=Z8s (Zbn m P) (Z8s (Zbn n P) P)
    rw [ih,Z7n]
theorem Z9t (m n:Nat) (P:G):Zbn (m*n) P=Zbn m (Zbn n P):=by
  induction m with
  | zero=>rw [Nat.zero_mul]; rfl
  | succ m ih=>rw [Nat.succ_mul,Zck,ih]; rfl
theorem Zjd (n:Nat):Zbn n Z7i=Z7i:=by
  induction n with
  | zero=>rfl
  | succ n ih=>show Z8s (Zbn n Z7i) Z7i=_; rw [ih,Zbo]
theorem Ziq (P Q R S:G):Z8s (Z8s P Q) (Z8s R S)=Z8s (Z8s P R) (Z8s Q S):=by
  rw [Z7n,← Z7n Q R S,Zip Q R,Z7n R Q S,← Z7n]
theorem Zjc (n:Nat) (P Q:G):Zbn n (Z8s P Q)=Z8s (Zbn n P) (Zbn n Q):=by
  induction n with
  | zero=>exact (Zbo _).symm
  | succ n ih =>
    show Z8s (Zbn n (Z8s P Q)) (Z8s P Q)=Z8s (Z8s (Zbn n P) P) (Z8s (Zbn n Q) Q)
    rw [ih,Ziq]
def fi (n:Int):F:=⟨(n%57896044618658097711785492504343953926634992332820282019728792003956564819949).toNat,by
  show _<57896044618658097711785492504343953926634992332820282019728792003956564819949
  omega⟩
theorem Zb4 (n:Int):((fi n).val:Int)=n%57896044618658097711785492504343953926634992332820282019728792003956564819949:=by
  show (((n%_).toNat:Nat):Int)=_
  omega
theorem Zv8:(pN:Int)=57896044618658097711785492504343953926634992332820282019728792003956564819949:=by decide +kernel
theorem Zms {a b:Int}:fi a=fi b↔a%57896044618658097711785492504343953926634992332820282019728792003956564819949=b%57896044618658097711785492504343953926634992332820282019728792003956564819949:=by
  constructor
  · intro h
    rw [← Zb4,← Zb4,h]
  · intro h
    apply Fin.ext
    have:((fi a).val:Int)=((fi b).val:Int):=by rw [Zb4,Zb4,h]
    omega
theorem Zae (a b:Int):fi (a+b)=fi a+fi b:=by
  apply Fin.ext
  rw [Fin.val_add]
  apply Int.ofNat_inj.1
  rw [Zb4,Int.natCast_emod,Int.natCast_add,Zb4,Zb4,Zv8]
  exact Int.add_emod _ _ _
theorem Z25 (a b:Int):fi (a*b)=fi a*fi b:=by
  apply Fin.ext
  rw [Fin.val_mul]
  apply Int.ofNat_inj.1
  rw [Zb4,Int.natCast_emod,Int.natCast_mul,Zb4,Zb4,Zv8]
  exact Int.mul_emod _ _ _
theorem fi_0:fi 0=0:=by decide +kernel
theorem Zr0:fi 1=1:=by decide +kernel
theorem Zd2 (a b:Int):fi (a-b)=fi a-fi b:=by
  have h:=Zae (a-b) b
  rw [Int.sub_add_cancel] at h
  grind -lia -linarith (splits:=0)
theorem Zeq (a:Int):fi (-a) = - fi a:=by
  have h:=Zae (-a) a
  rw [Int.add_left_neg,fi_0] at h
  grind -lia -linarith (splits:=0)
theorem Zb3 (a:Int):fi (a%57896044618658097711785492504343953926634992332820282019728792003956564819949)=fi a:=by
  rw [Zms]; exact Int.emod_emod_of_dvd _ (Int.dvd_refl _)
def fv (x:F):Int:=(x.val:Int)
theorem Zdp (x:F):0≤fv x∧fv x<57896044618658097711785492504343953926634992332820282019728792003956564819949:=by
  have:=x.isLt
  have h:=Zv8
  unfold fv
  omega
theorem Zmt (x:F):fi (fv x)=x:=by
  apply Fin.ext
  have h1:=Zb4 (fv x)
  have h:=Zdp x
  rw [Int.emod_eq_of_lt h.1 h.2] at h1
  unfold fv at *
  omega
theorem Zr3 (n:Int):fv (fi n)=n%57896044618658097711785492504343953926634992332820282019728792003956564819949:=Zb4 n
theorem Zx8 {x y:F} (h:fv x=fv y):x=y:=by rw [← Zmt x,← Zmt y,h]
def pwF (x:F):Nat→F
  | 0=>1
  | n+1=>pwF x n*x
theorem Zi6 (x:F):pwF x 0=1:=rfl
theorem Z8z (x:F) (n:Nat):pwF x (n+1)=pwF x n*x:=rfl
theorem Zi5 (x:F) (m n:Nat):pwF x (m+n)=pwF x m*pwF x n:=by
  induction n with
  | zero=>rw [Nat.add_zero,Zi6]; generalize pwF x m=z; grind -lia -linarith (splits:=0)
  | succ n ih=>rw [← Nat.add_assoc,Z8z,Z8z,ih]; generalize pwF x m=z; generalize pwF x n=w; grind -lia -linarith (splits:=0)
theorem Zpc (x:F) (m n:Nat):pwF x (m*n)=pwF (pwF x m) n:=by
  induction n with
  | zero=>rfl
  | succ n ih=>rw [Nat.mul_succ,Zi5,ih,Z8z]
theorem Zpd (x:F):pwF x 2=x*x:=by rw [show 2=0+1+1 from rfl,Z8z,Z8z,Zi6]; grind -lia -linarith (splits:=0)
theorem Zve (x:F) (n:Nat):(pwF x n).val=x.val^n%pN:=by
  induction n with
  | zero=>rw [Zi6,Nat.pow_zero]; decide +kernel
  | succ n ih=>rw [Z8z,Fin.val_mul,ih,Nat.mod_mul_mod,Nat.pow_succ]
theorem Zoe {x:F} {n:Nat} (hn:n=pN-1) (hx:x≠0):pwF x n=1:=by
  have h0:x.val%pN≠0:=by
    intro h
    apply hx
    rw [Nat.mod_eq_of_lt x.isLt] at h
    exact Fin.ext h
  have h:=Zod h0
  rw [← hn] at h
  unfold One at h
  apply Fin.ext
  rw [Zve,h]
  decide +kernel
theorem Zuu {x:F} {n:Nat} (hn:n+2=pN) (hx:x≠0):x*pwF x n=1:=by
  have h:=Zoe (n:=n+1) (by omega) hx
  rw [Z8z] at h
  rw [← h]
  generalize pwF x n=z
  grind -lia -linarith (splits:=0)
theorem Zvk {s:F} {n:Nat} (hn:4*n=pN-1) (hs:s≠0):pwF (s*s) n=1∨pwF (s*s) n = -1:=by
  have h:=Zoe (n:=4*n) hn hs
  have e:pwF (s*s) n*pwF (s*s) n=1:=by
    rw [← Zpd s,← Zpc,← Zi5,← h]
    congr 1
    omega
  generalize pwF (s*s) n=w at *
  have h2:(w-1)*(w+1)=0:=by grind -lia -linarith (splits:=0)
  rcases Z85 h2 with h3 | h3
  · exact .inl (by grind -lia -linarith (splits:=0))
  · exact .inr (by grind -lia -linarith (splits:=0))
theorem cand {u v:F} {n m:Nat} (hn:8*n+5=pN) (hm:m=2*n+1) :
    v*(u*(v*v*v)*pwF (u*((v*v*v)*(v*v*v))*v) n*(u*(v*v*v)*pwF (u*((v*v*v)*(v*v*v))*v) n))=u*pwF (u*((v*v*v)*(v*v*v))*v) m:=by
  obtain ⟨a,ha⟩ : ∃ a,a=u*((v*v*v)*(v*v*v))*v:=⟨_,rfl⟩
  rw [← ha,hm,Z8z,Nat.mul_comm,Zpc,Zpd]
  generalize pwF a n=z
  rw [ha]
  grind -lia -linarith (splits:=0)
end Go.Proofs.YtiflckckekjbnaaDoor
namespace Go.Proofs.YtiflckckekjbnaaDoor
open Go Go.Sx Go.RowKit
set_option linter.all false
set_option maxRecDepth 100000
structure Rep (q:Q4) (P:G):Prop where
  z:fi q.z≠0
  x:fi q.x=P.x*fi q.z
  y:fi q.y=P.y*fi q.z
  t:fi q.t=P.x*P.y*fi q.z
theorem Zx5:fi D2=dF+dF:=by decide +kernel
theorem Zuo:fi DD=dF:=by decide +kernel
theorem Zb9 {a b:F} (ha:a≠0) (hb:b≠0):a*b≠0:=fun h=>(Z85 h).elim ha hb
theorem Z0m8:(1:F)+1≠0:=by decide +kernel
theorem Zh9 {e f g h:Int} {P:G} (hf:fi f≠0) (hg:fi g≠0) (he:fi e=P.x*fi g) (hh:fi h=P.y*fi f):Rep (Zi9 e f g h) P:=by
  constructor
  · show fi (f*g)≠0
    rw [Z25]; exact Zb9 hf hg
  · show fi (e*f)=_*fi (f*g)
    rw [Z25,Z25,he]; grind -lia -linarith (splits:=0)
  · show fi (g*h)=_*fi (f*g)
    rw [Z25,Z25,hh]; grind -lia -linarith (splits:=0)
  · show fi (e*h)=_*fi (f*g)
    rw [Z25,Z25,he,hh]; grind -lia -linarith (splits:=0)
theorem Zno (P Q:G):(Z8s P Q).x*(1+dF*P.x*Q.x*P.y*Q.y)=P.x*Q.y+P.y*Q.x:=by
  have h:=Z59 (Zqc P.on Q.on)
  show (P.x*Q.y+P.y*Q.x)*Zlm (1+dF*P.x*Q.x*P.y*Q.y)*_=_
  generalize Zlm (1+dF*P.x*Q.x*P.y*Q.y)=i at *
  generalize dF=d at *
  grind -lia -linarith (splits:=0)
theorem Znp (P Q:G):(Z8s P Q).y*(1-dF*P.x*Q.x*P.y*Q.y)=P.y*Q.y+P.x*Q.x:=by
  have h:=Z59 (Zqd P.on Q.on)
  show (P.y*Q.y+P.x*Q.x)*Zlm (1-dF*P.x*Q.x*P.y*Q.y)*_=_
  generalize Zlm (1-dF*P.x*Q.x*P.y*Q.y)=i at *
  generalize dF=d at *
  grind -lia -linarith (splits:=0)
theorem Zvs {p q:Q4} {P Q:G} (hp:Rep p P) (hq:Rep q Q):Rep (qadd p q) (Z8s P Q):=by
  have d1:=Zqc P.on Q.on
  have d2:=Zqd P.on Q.on
  have ax:=Zno P Q
  have ay:=Znp P Q
  have hz:=Zb9 Z0m8 (Zb9 hp.z hq.z)
  have ef:fi ((p.z+p.z)*q.z-p.t*D2*q.t)=(1+1)*(fi p.z*fi q.z)*(1-dF*P.x*Q.x*P.y*Q.y):=by
    simp only [Z25,Zd2,Zae,Zx5,hp.t,hq.t]
    generalize dF=d at *
    grind -lia -linarith (splits:=0)
  have eg:fi ((p.z+p.z)*q.z+p.t*D2*q.t)=(1+1)*(fi p.z*fi q.z)*(1+dF*P.x*Q.x*P.y*Q.y):=by
    simp only [Z25,Zd2,Zae,Zx5,hp.t,hq.t]
    generalize dF=d at *
    grind -lia -linarith (splits:=0)
  refine Zh9 ?_ ?_ ?_ ?_
  · rw [ef]; exact Zb9 hz d2
  · rw [eg]; exact Zb9 hz d1
  · rw [eg]
    simp only [Z25,Zd2,Zae,hp.x,hq.x,hp.y,hq.y]
    generalize dF=d at *
    generalize (Z8s P Q).x=X at *
    grind -lia -linarith (splits:=0)
  · rw [ef]
    simp only [Z25,Zd2,Zae,hp.x,hq.x,hp.y,hq.y]
    generalize dF=d at *
    generalize (Z8s P Q).y=Y at *
    grind -lia -linarith (splits:=0)
theorem Zvu {p:Q4} {P:G} (hp:Rep p P):Rep (qdbl p) (Z8s P P):=by
  have d1:=Zqc P.on P.on
  have d2:=Zqd P.on P.on
  have ax:=Zno P P
  have ay:=Znp P P
  have on:=P.on.eq
  have ef:fi (p.z*p.z+p.z*p.z+(p.x*p.x-p.y*p.y))=(fi p.z*fi p.z)*(1-dF*P.x*P.x*P.y*P.y):=by
    simp only [Z25,Zd2,Zae,hp.x,hp.y]
    generalize dF=d at *
    grind -lia -linarith (splits:=0)
  have eg:fi (p.x*p.x-p.y*p.y) = - (fi p.z*fi p.z)*(1+dF*P.x*P.x*P.y*P.y):=by
    simp only [Z25,Zd2,Zae,hp.x,hp.y]
    generalize dF=d at *
    grind -lia -linarith (splits:=0)
  have hz:=Zb9 hp.z hp.z
  have hz' : - (fi p.z*fi p.z)≠0:=by
    intro h; apply hz
    grind -lia -linarith (splits:=0)
  refine Zh9 ?_ ?_ ?_ ?_
  · rw [ef]; exact Zb9 hz d2
  · rw [eg]; exact Zb9 hz' d1
  · rw [eg]
    simp only [Z25,Zd2,Zae,hp.x,hp.y]
    generalize dF=d at *
    generalize (Z8s P P).x=X at *
    grind -lia -linarith (splits:=0)
  · rw [ef]
    simp only [Z25,Zd2,Zae,hp.x,hp.y]
    generalize dF=d at *
    generalize (Z8s P P).y=Y at *
    grind -lia -linarith (splits:=0)
theorem Zpk {q:Q4} {P:G} (h:Rep q P):Rep (Zyb q) P:=by
  constructor
  · show fi (q.z%PP)≠0; rw [Zb3]; exact h.z
  · show fi (q.x%PP)=_*fi (q.z%PP); rw [Zb3,Zb3]; exact h.x
  · show fi (q.y%PP)=_*fi (q.z%PP); rw [Zb3,Zb3]; exact h.y
  · show fi (q.t%PP)=_*fi (q.z%PP); rw [Zb3,Zb3]; exact h.t
theorem Zid:Rep Zku Z7i:=by
  constructor
  · show fi 1≠0; decide +kernel
  · show fi 0=0*fi 1; decide +kernel
  · show fi 1=1*fi 1; decide +kernel
  · show fi 0=0*1*fi 1; decide +kernel
def Zkb (P:G):G:=⟨-P.x,P.y,⟨by have h:=P.on.eq; generalize dF=d at *; grind -lia -linarith (splits:=0)⟩⟩
theorem Zvv {p:Q4} {P:G} (h:Rep p P):Rep ⟨-p.x,p.y,p.z,-p.t⟩ (Zkb P):=by
  constructor
  · exact h.z
  · show fi (-p.x) = -P.x*_; rw [Zeq,h.x]; grind -lia -linarith (splits:=0)
  · exact h.y
  · show fi (-p.t) = -P.x*P.y*_; rw [Zeq,h.t]; grind -lia -linarith (splits:=0)
theorem Zrf (P:G):Z8s (Zkb P) P=Z7i:=by
  have d1:=Zqc (Zkb P).on P.on
  have d2:=Zqd (Zkb P).on P.on
  have ax:=Zno (Zkb P) P
  have ay:=Znp (Zkb P) P
  have n1:(Zkb P).x = -P.x:=rfl
  have n2:(Zkb P).y=P.y:=rfl
  have on:=P.on.eq
  have z1:Z7i.x=0:=rfl
  have z2:Z7i.y=1:=rfl
  generalize Z8s (Zkb P) P=R at *
  refine Zmh ?_ ?_
  · rw [z1]
    refine (Z85 (b:=1+dF*(Zkb P).x*P.x*(Zkb P).y*P.y) ?_).resolve_right d1
    rw [ax,n1,n2]; grind -lia -linarith (splits:=0)
  · rw [z2]
    have e:(R.y-1)*(1-dF*(Zkb P).x*P.x*(Zkb P).y*P.y)=0:=by
      rw [n1,n2] at *
      generalize dF=d at *
      grind -lia -linarith (splits:=0)
    have:=(Z85 e).resolve_right d2
    grind -lia -linarith (splits:=0)
theorem Zfg {p q:Q4} {P Q:G} (hp:Rep p P) (hq:Rep q Q):Rep (Zf5 p q) (Z8s P Q):=Zpk (Zvs hp hq)
theorem Zfh {p:Q4} {P:G} (hp:Rep p P):Rep (Z7w p) (Z8s P P):=Zpk (Zvu hp)
theorem Zic {p:Q4} {P:G} (hp:Rep p P) : ∀ j,Rep (tab p j) (Zbn j P)
  | 0=>Zid
  | j+1=>Zfg (Zic hp j) hp
theorem Zrc (P:G):Zbn 1 P=P:=Zgd P
theorem Zfd (P:G):Zbn 2 P=Z8s P P:=by
  show Z8s (Zbn 1 P) P=_
  rw [Zrc]
theorem Zm3 {p:Q4} {P:G} (hp:Rep p P):Rep (Zgl p) (Zbn 16 P):=by
  have h:=Zfh (Zfh (Zfh (Zfh hp)))
  rw [← Zfd,← Zfd,← Zfd,← Zfd,← Z9t,← Z9t,← Z9t] at h
  exact h
def Zoy (k:List Int):Nat→Nat
  | 0=>0
  | i+1=>16*Zoy k i+(nib k i).toNat
theorem Zib {p:Q4} {P:G} (k:List Int) (hp:Rep p P) : ∀ i,Rep (Zh7 k p i) (Zbn (Zoy k i) P)
  | 0=>Zid
  | i+1=>by
    have h:=Zfg (Zm3 (Zib k hp i)) (Zic hp (nib k i).toNat)
    rw [← Z9t,← Zck] at h
    exact h
theorem Zjr {p r:Q4} {P R:G} (k l:List Int) (hp:Rep p P) (hr:Rep r R) : ∀ i,Rep (Zf4 k l p r i) (Z8s (Zbn (Zoy k i) P) (Zbn (Zoy l i) R))
  | 0=>by
    show Rep Zku (Z8s Z7i Z7i)
    rw [Zbo]; exact Zid
  | i+1=>by
    have h:=Zfg (Zfg (Zm3 (Zjr k l hp hr i)) (Zic hp (nib k i).toNat)) (Zic hr (nib l i).toNat)
    rw [Zjc,← Z9t,← Z9t,Z7n,Ziq,← Zck,← Zck] at h
    exact h
def Zsw (k:List Int):Nat→Int
  | 0=>0
  | j+1=>Zsw k j*256+k.getD (31-j) 0
theorem Zi2 {k:List Int} (hk:Byt k) : ∀ j,(Zoy k (2*j):Int)=Zsw k j
  | 0=>rfl
  | j+1=>by
    have ih:=Zi2 hk j
    have hb:=hk (31-j)
    have e1:nib k (2*j)=k.getD (31-j) 0 / 16%16:=by unfold nib; rw [if_pos (by omega),show 2*j / 2=j by omega]
    have e2:nib k (2*j+1)=k.getD (31-j) 0%16:=by unfold nib; rw [if_neg (by omega),show (2*j+1) / 2=j by omega]
    show ((16*(16*Zoy k (2*j)+(nib k (2*j)).toNat)+(nib k (2*j+1)).toNat:Nat):Int)=Zsw k j*256+k.getD (31-j) 0
    rw [e1,e2]
    generalize k.getD (31-j) 0=b at *
    generalize Zoy k (2*j)=n at *
    generalize Zsw k j=m at *
    omega
def Z6w (x:List Int):Int:=x.getD 0 0+x.getD 1 0*256+x.getD 2 0*65536+x.getD 3 0*16777216+x.getD 4 0*4294967296+x.getD 5 0*1099511627776+x.getD 6 0*281474976710656+x.getD 7 0*72057594037927936+x.getD 8 0*18446744073709551616+x.getD 9 0*4722366482869645213696+x.getD 10 0*1208925819614629174706176+x.getD 11 0*309485009821345068724781056+x.getD 12 0*79228162514264337593543950336+x.getD 13 0*20282409603651670423947251286016+x.getD 14 0*5192296858534827628530496329220096+x.getD 15 0*1329227995784915872903807060280344576+x.getD 16 0*340282366920938463463374607431768211456+x.getD 17 0*87112285931760246646623899502532662132736+x.getD 18 0*22300745198530623141535718272648361505980416+x.getD 19 0*5708990770823839524233143877797980545530986496+x.getD 20 0*1461501637330902918203684832716283019655932542976+x.getD 21 0*374144419156711147060143317175368453031918731001856+x.getD 22 0*95780971304118053647396689196894323976171195136475136+x.getD 23 0*24519928653854221733733552434404946937899825954937634816+x.getD 24 0*6277101735386680763835789423207666416102355444464034512896+x.getD 25 0*1606938044258990275541962092341162602522202993782792835301376+x.getD 26 0*411376139330301510538742295639337626245683966408394965837152256+x.getD 27 0*105312291668557186697918027683670432318895095400549111254310977536+x.getD 28 0*26959946667150639794667015087019630673637144422540572481103610249216+x.getD 29 0*6901746346790563787434755862277025452451108972170386555162524223799296+x.getD 30 0*1766847064778384329583297500742918515827483896875618958121606201292619776+x.getD 31 0*452312848583266388373324160190187140051835877600158453279131187530910662656
theorem Zoi (k:List Int):Zsw k 32=Z6w k:=by
  simp only [Zsw,Z6w]
  simp only [Nat.reduceSub]
  omega
theorem Zi1 {k:List Int} (hk:Byt k):Zoy k 64=(Z6w k).toNat:=by
  have h:(Zoy k 64:Int)=Zsw k 32:=Zi2 hk 32
  rw [Zoi] at h
  omega
theorem Zde {k:List Int} (hk:Byt k):0≤Z6w k:=by
  have h:(Zoy k 64:Int)=Zsw k 32:=Zi2 hk 32
  rw [Zoi] at h
  omega
def Zqm (e:List Int):Nat→Nat
  | 0=>0
  | k+1=>if ebit e (255-k) then 2*Zqm e k+1 else 2*Zqm e k
theorem Zuq (x:Int) (e:List Int) : ∀ k,fi (pw x e k)=pwF (fi x) (Zqm e k)
  | 0=>Zr0
  | k+1=>by
    have ih:=Zuq x e k
    simp only [pw,Zqm]
    split
    · rw [Zb3,Z25,Zb3,Z25,ih,Z8z,Nat.two_mul,Zi5]
    · rw [Zb3,Z25,ih,Nat.two_mul,Zi5]
theorem Zqn:Zqm einv 256+2=pN:=by decide +kernel
theorem Znw:8*Zqm esq 256+5=pN:=by decide +kernel
theorem Zup {a:Int} (h:fi a≠0):fi a*fi (Zof a)=1:=by
  unfold Zof
  rw [Zuq,Zb3]
  exact Zuu Zqn h
theorem Zr1:fi Zs6*fi Zs6 = -1:=by decide +kernel
def Zbl (P:G):List Int:=Zcu (fv P.x) (fv P.y)
theorem Zkk {x y u v:Int} (h1:x%PP=u%PP) (h2:y%PP=v%PP):Zcu x y=Zcu u v:=by
  unfold Zcu; rw [h1,h2]
theorem Zvt {q:Q4} {P:G} (h:Rep q P):fi (q.x*Zof q.z)=P.x∧fi (q.y*Zof q.z)=P.y:=by
  have hi:=Zup h.z
  rw [Z25,Z25,h.x,h.y]
  generalize fi (Zof q.z)=i at *
  generalize fi q.z=z at *
  exact ⟨by grind -lia -linarith (splits:=0),by grind -lia -linarith (splits:=0)⟩
theorem Zh0 (x:F):fv x%PP=fv x:=Int.emod_eq_of_lt (Zdp x).1 (Zdp x).2
theorem Zuk {q:Q4} {P:G} (h:Rep q P):encQ q=Zbl P:=by
  have ha:=Zvt h
  refine Zkk ?_ ?_
  · rw [Zh0,← ha.1,Zr3]
  · rw [Zh0,← ha.2,Zr3]
theorem Zhs (n:Int):Byt (byt n):=byt_of (by
  unfold byt
  repeat' (first | exact List.forall_mem_nil _ | refine List.forall_mem_cons.2 ⟨?_,?_⟩)
  all_goals omega)
theorem Z2t (n:Int):(byt n).length=32:=rfl
theorem Zxz {x:Int} (h0:0≤x) (h1:x<128):Z4 .or .u8 x 128=x+128:=by
  have:x=((x.toNat:Nat):Int):=by omega
  rw [this]
  have hx:x.toNat<128:=by omega
  generalize x.toNat=n at *
  have h : ∀ n:Fin 128,Z4 .or .u8 ((n.val:Nat):Int) 128=(n.val:Int)+128:=by decide +kernel
  exact h ⟨n,hx⟩
theorem Zso {n:Int} (h0:0≤n) (h1:n<PP):0≤(byt n).getD 31 0∧(byt n).getD 31 0<128:=by
  have e:(byt n).getD 31 0=n / 452312848583266388373324160190187140051835877600158453279131187530910662656%256:=rfl
  rw [e]
  unfold PP at h1
  omega
theorem Zlb {n:Int} (h0:0≤n) (h1:n<PP):Zd1 (byt n)=n:=by
  unfold PP at h1
  simp only [Zd1,byt,List.getD_cons_zero,List.getD_cons_succ]
  omega
theorem Zg4 {l:List Int} {i:Nat} {v:Int} (h:i<l.length):(Z4h l i v).length=l.length:=by rw [Zii h,List.length_set]
theorem Zuj (x y:Int):Byt (Zcu x y):=by
  unfold Zcu
  split
  · refine Zfi (Zhs _) ?_
    have:=Zso (n:=y%PP) (Int.emod_nonneg _ (by decide)) (Int.emod_lt_of_pos _ Zdh)
    rw [Zxz this.1 this.2]
    omega
  · exact Zhs _
theorem Zmr (x y:Int):(Zcu x y).length=32:=by
  unfold Zcu
  split
  · rw [Zg4 (by rw [Z2t]; decide),Z2t]
  · exact Z2t _
theorem Zm5 {l:List Int} {i:Nat} (h:i<l.length):l.set i (l.getD i 0)=l:=by
  have e:l.getD i 0=l[i]:=by simp [List.getD_eq_getElem?_getD,List.getElem?_eq_getElem h]
  rw [e]
  exact List.set_getElem_self h
theorem Zj1 (x y:Int):(Zcu x y).getD 31 0 / 128=x%PP%2∧Z4h (Zcu x y) 31 ((Zcu x y).getD 31 0%128)=byt (y%PP):=by
  have h31:=Zso (n:=y%PP) (Int.emod_nonneg _ (by decide)) (Int.emod_lt_of_pos _ Zdh)
  unfold Zcu
  split
  · next h =>
    rw [Zxz h31.1 h31.2,Z8j,if_pos rfl]
    refine ⟨by omega,?_⟩
    have e:((byt (y%PP)).getD 31 0+128)%128=(byt (y%PP)).getD 31 0:=by omega
    rw [e,Zii (xs:=Z4h _ _ _) (by rw [Zg4 (by rw [Z2t]; decide),Z2t]; decide),Zii (by rw [Z2t]; decide),List.set_set]
    exact Zm5 (by rw [Z2t]; decide)
  · next h =>
    refine ⟨by omega,?_⟩
    have e:(byt (y%PP)).getD 31 0%128=(byt (y%PP)).getD 31 0:=by omega
    rw [e,Zii (by rw [Z2t]; decide)]
    exact Zm5 (by rw [Z2t]; decide)
theorem Zx9 (y:F):fv (-y)=(- fv y)%57896044618658097711785492504343953926634992332820282019728792003956564819949:=by
  have h:=Zr3 (- fv y)
  rw [Zeq,Zmt] at h
  exact h
theorem Zrg {b:Int} (hy:0≤b∧b<57896044618658097711785492504343953926634992332820282019728792003956564819949) (h0 : ¬ b=0) : -b%57896044618658097711785492504343953926634992332820282019728792003956564819949=57896044618658097711785492504343953926634992332820282019728792003956564819949-b:=by
  rw [← Int.add_emod_right,Int.emod_eq_of_lt (by omega) (by omega)]; omega
theorem par {x y:F} (h:fv x%2=fv y%2) (h2:x = -y):x=y:=by
  have e:=Zx9 y
  rw [← h2] at e
  have hx:=Zdp x
  have hy:=Zdp y
  apply Zx8
  clear h2
  generalize fv x=a at *
  generalize fv y=b at *
  by_cases h0:b=0
  · subst h0; rw [e]; rfl
  · rw [Zrg hy h0] at e
    omega
theorem Zqs (y d j:F) (h:1+d*y*y=0) (hj:j*j+1=0):j*j=d*(y*y):=by grind -lia -linarith (splits:=0)
theorem Zrm (y d:F) (hy:y=0) (h:1+d*y*y=0):(1:F)=0:=by grind -lia -linarith (splits:=0)
theorem Zwy (y:F):1+dF*y*y≠0:=by
  intro h
  have:=Ziy _ _ (Zqs y dF iF h Zxa)
  exact absurd (Zrm y dF this h) (by decide +kernel)
theorem Zpp (a b c d:F) (h1:c*c-a*a=1+d*a*a*c*c) (h2:c*c-b*b=1+d*b*b*c*c):((a-b)*(a+b))*(1+d*c*c)=0:=by grind -lia -linarith (splits:=0)
theorem Zg9 (a b:F) (h:a-b=0):a=b:=by grind -lia -linarith (splits:=0)
theorem Zkd (a b:F) (h:a+b=0):a = -b:=by grind -lia -linarith (splits:=0)
theorem Zv7 {P Q:G} (hy:P.y=Q.y):P.x=Q.x∨P.x = - Q.x:=by
  have h1:=P.on.eq
  have h2:=Q.on.eq
  rw [hy] at h1
  rcases Z85 ((Z85 (Zpp _ _ _ _ h1 h2)).resolve_right (Zwy Q.y)) with h | h
  · exact .inl (Zg9 _ _ h)
  · exact .inr (Zkd _ _ h)
theorem Zd9 {a:Int}:fi a=0↔a%PP=0:=by
  rw [← fi_0,Zms]; rfl
theorem Zob {a:Int} (h0 : ¬ a%57896044618658097711785492504343953926634992332820282019728792003956564819949=0) : -a%57896044618658097711785492504343953926634992332820282019728792003956564819949=57896044618658097711785492504343953926634992332820282019728792003956564819949-a%57896044618658097711785492504343953926634992332820282019728792003956564819949:=by omega
theorem Zli (a:Int):Zun a%PP%2=0:=by
  unfold Zun PP
  by_cases h:a%57896044618658097711785492504343953926634992332820282019728792003956564819949%2=1
  · have hb:(a%57896044618658097711785492504343953926634992332820282019728792003956564819949%2==1)=true:=by simpa using h
    rw [hb]
    show -a%57896044618658097711785492504343953926634992332820282019728792003956564819949%2=0
    rw [Zob (by intro h0; rw [h0] at h; exact absurd h (by decide))]
    generalize a%57896044618658097711785492504343953926634992332820282019728792003956564819949=b at *
    clear hb
    omega
  · have hb:(a%57896044618658097711785492504343953926634992332820282019728792003956564819949%2==1)=false:=by simpa using h
    rw [hb]
    show a%57896044618658097711785492504343953926634992332820282019728792003956564819949%2=0
    generalize a%57896044618658097711785492504343953926634992332820282019728792003956564819949=b at *
    clear hb
    omega
theorem Zoc (a:Int):fi (Zun a)*fi (Zun a)=fi a*fi a:=by
  unfold Zun
  cases h:(a%PP%2==1)
  · rfl
  · show fi (-a)*fi (-a)=_
    rw [Zeq]; grind -lia -linarith (splits:=0)
theorem Zjx {a b:Int} (hb:fi b≠0) (h:(Znm a b).2=true):fi b*(fi (Znm a b).1*fi (Znm a b).1)=fi a∧(Znm a b).1%PP%2=0:=by
  have hb' : ¬ b%PP=0:=fun e=>hb (Zd9.2 e)
  unfold Znm at h ⊢
  rw [if_neg hb'] at h ⊢
  split
  · next h1 =>
    refine ⟨?_,Zli _⟩
    rw [Zoc,← Z25,← Z25]
    exact Zms.2 h1
  · next h1 =>
    rw [if_neg h1] at h
    split
    · next h2 =>
      refine ⟨?_,Zli _⟩
      rw [Zoc]
      have e:=Zms.2 h2
      have e2:=Zr1
      rw [Z25,Z25,Zeq] at e
      rw [Z25]
      generalize fi Zs6=j at *
      generalize fi (Zin a b)=r at *
      grind -lia -linarith (splits:=0)
    · next h2 =>
      rw [if_neg h2] at h
      cases h
theorem Zjw {a b:Int} (hb:fi b≠0) {x:F} (hx:fi b*(x*x)=fi a):(Znm a b).2=true:=by
  have hb' : ¬ b%PP=0:=fun e=>hb (Zd9.2 e)
  have hc:=cand (u:=fi a) (v:=fi b) (m:=2*Zqm esq 256+1) Znw rfl
  have er:fi (Zin a b)=fi a*(fi b*fi b*fi b)*pwF (fi a*((fi b*fi b*fi b)*(fi b*fi b*fi b))*fi b) (Zqm esq 256):=by
    unfold Zin
    simp only [Z25,Zuq,Zb3]
  rw [← er] at hc
  have hq:fi b*(fi (Zin a b)*fi (Zin a b))=fi a∨fi b*(fi (Zin a b)*fi (Zin a b)) = - fi a:=by
    rw [hc]
    by_cases hx0:x=0
    · left
      have:fi a=0:=by rw [← hx,hx0]; generalize fi b=v; grind -lia -linarith (splits:=0)
      rw [this]
      generalize pwF _ _=z
      grind -lia -linarith (splits:=0)
    · have hs:fi a*((fi b*fi b*fi b)*(fi b*fi b*fi b))*fi b=(x*(fi b*fi b*fi b*fi b))*(x*(fi b*fi b*fi b*fi b)):=by
        rw [← hx]; generalize fi b=v; grind -lia -linarith (splits:=0)
      rw [hs]
      have hn:x*(fi b*fi b*fi b*fi b)≠0:=Zb9 hx0 (Zb9 (Zb9 (Zb9 hb hb) hb) hb)
      rcases Zvk (n:=2*Zqm esq 256+1) (by have:=Znw; omega) hn with e | e
      · left; rw [e]; grind -lia -linarith (splits:=0)
      · right; rw [e]; grind -lia -linarith (splits:=0)
  unfold Znm
  rw [if_neg hb']
  split
  · rfl
  · next h1 =>
    split
    · rfl
    · next h2 =>
      exfalso
      rcases hq with e | e
      · apply h1; apply Zms.1; rw [Z25,Z25]; exact e
      · apply h2; apply Zms.1; rw [Z25,Z25,Zeq]; exact e
theorem Zie (y:Int):fi (DD*(y*y)+1)≠0:=by
  have h:=Zwy (fi y)
  intro e
  apply h
  rw [Zae,Z25,Z25,Zuo,Zr0] at e
  generalize dF=d at *
  grind -lia -linarith (splits:=0)
theorem Zpl {y:Int} (h:(Zac y).2=true):On (fi (Zac y).1) (fi y):=by
  have hs:=(Zjx (Zie y) h).1
  constructor
  have e:fi (DD*(y*y)+1)*(fi (Zac y).1*fi (Zac y).1)=fi (y*y-1):=hs
  rw [Zae,Z25,Z25,Zuo,Zr0,Zd2,Z25,Zr0] at e
  generalize dF=d at *
  generalize fi (Zac y).1=x at *
  grind -lia -linarith (splits:=0)
theorem Zxy {x y:F} (h:On x y):On (-x) y:=⟨by have e:=h.eq; generalize dF=d at *; grind -lia -linarith (splits:=0)⟩
theorem Zo8 {p:List Int} (h:dok p=true):Zwb p=true∧(Zac (Zd1 (Z3i p))).2=true ∧ ¬ (Zqe p=1∧(Zac (Zd1 (Z3i p))).1%PP=0):=by
  unfold dok at h
  simp only [Bool.and_eq_true,Bool.not_eq_true'] at h
  refine ⟨h.1.1,h.1.2,?_⟩
  intro hh
  have:=h.2
  simp [hh.1,hh.2] at this
theorem Zo9 {p:List Int} (h:dok p=true) : ∃ P:G,Rep (dpt p) P∧P.y=fi (Zd1 (Z3i p))∧P.x=fi (dx p):=by
  obtain ⟨_,h2,_⟩:=Zo8 h
  have on:=Zpl h2
  have on2:On (fi (dx p)) (fi (Zd1 (Z3i p))):=by
    unfold dx
    split
    · rw [Zeq]; exact Zxy on
    · exact on
  refine ⟨⟨_,_,on2⟩,⟨?_,?_,?_,?_⟩,rfl,rfl⟩
  · show fi 1≠0; decide +kernel
  · show fi (dx p)=fi (dx p)*fi 1; rw [Zr0]; grind -lia -linarith (splits:=0)
  · show fi (Zd1 (Z3i p))=fi (Zd1 (Z3i p))*fi 1; rw [Zr0]; grind -lia -linarith (splits:=0)
  · show fi (dx p*Zd1 (Z3i p))=fi (dx p)*fi (Zd1 (Z3i p))*fi 1; rw [Zr0,Z25]; grind -lia -linarith (splits:=0)
theorem Zhh (x y:Int):Z3i (Zcu x y)=byt (y%PP):=(Zj1 x y).2
theorem Zqu (x y:Int):Zqe (Zcu x y)=x%PP%2:=(Zj1 x y).1
theorem Zo7 (P:G):dok (Zbl P)=true∧Rep (dpt (Zbl P)) P:=by
  have ey:Zd1 (Z3i (Zbl P))=fv P.y:=by
    unfold Zbl; rw [Zhh,Zh0,Zlb (Zdp _).1 (Zdp _).2]
  have et:Zqe (Zbl P)=fv P.x%2:=by unfold Zbl; rw [Zqu,Zh0]
  have hr:(Zac (fv P.y)).2=true:=by
    refine Zjw (Zie _) (x:=P.x) ?_
    rw [Zae,Z25,Z25,Zuo,Zr0,Zd2,Z25,Zr0,Zmt]
    have:=P.on.eq
    generalize dF=d at *
    grind -lia -linarith (splits:=0)
  have hs:=Zjx (Zie (fv P.y)) hr
  have hx:P.x=fi (Zac (fv P.y)).1∨P.x = - fi (Zac (fv P.y)).1 :=
    Zv7 (P:=P) (Q:=⟨_,_,Zpl hr⟩) (Zmt P.y).symm
  have hpar:fv (fi (Zac (fv P.y)).1)%2=0:=by rw [Zr3]; exact hs.2
  have hdx:fi (dx (Zbl P))=P.x:=by
    unfold dx
    rw [ey,et]
    split
    · next h =>
      rw [Zeq]
      rcases hx with e | e
      · exfalso; rw [e] at h; omega
      · exact e.symm
    · next h =>
      refine (?_:P.x=_).symm
      rcases hx with e | e
      · exact e
      · exact par (by omega) e
  have hcan:Zwb (Zbl P)=true:=by
    unfold Zwb Zbl ieq
    rw [Zhh,Zh0,Zlb (Zdp _).1 (Zdp _).2,Z41,Zeb,Zh0]
    simp
  have hok:dok (Zbl P)=true:=by
    unfold dok
    rw [hcan,ey,hr,et]
    simp only [Bool.and_self,Bool.true_and,Bool.not_eq_true',Bool.and_eq_false_iff,beq_eq_false_iff_ne,decide_eq_false_iff_not]
    by_cases h:fv P.x%2=1
    · right
      intro h0
      have z:fi (Zac (fv P.y)).1=0:=Zd9.2 h0
      rw [z] at hx
      have:P.x=0:=by rcases hx with e | e <;> rw [e] <;> decide +kernel
      rw [this] at h
      revert h
      decide +kernel
    · left; exact h
  refine ⟨hok,?_⟩
  obtain ⟨Q,hQ,qy,qx⟩:=Zo9 hok
  have:Q=P:=by
    refine Zmh (by rw [qx,hdx]) (by rw [qy,ey,Zmt])
  rw [this] at hQ; exact hQ
set_option maxHeartbeats 1000000
theorem Zju (k:Nat) {b:Int} (hk:k≤56) (h:0≤b∧b<256):Zq .u64 (IntKind.wrap .u64 b) (k:Int)=b*((2^k:Nat):Int):=by
  have hp:(0:Int)<((2^k:Nat):Int):=by have:=Nat.pow_pos (n:=k) (show 0<2 by decide); omega
  have hle:((2^k:Nat):Int)≤72057594037927936:=by
    have:=Nat.pow_le_pow_right (show 0<2 by decide) hk
    have e:(2^56:Nat)=72057594037927936:=by decide
    omega
  have h1:b*((2^k:Nat):Int)≤255*72057594037927936:=Int.mul_le_mul (by omega) hle (by omega) (by omega)
  have h0:0≤b*((2^k:Nat):Int):=Int.mul_nonneg h.1 (by omega)
  rw [Zv h.1 (by omega),Zew .u64 (n:=k) (by show k≤64; omega),Zv h0 (by omega)]
theorem Zim {b0 b1 b2 b3 b4 b5 b6 b7:Int} (h0:0≤b0∧b0<256) (h1:0≤b1∧b1<256) (h2:0≤b2∧b2<256) (h3:0≤b3∧b3<256) (h4:0≤b4∧b4<256) (h5:0≤b5∧b5<256) (h6:0≤b6∧b6<256) (h7:0≤b7∧b7<256):Z4 .or .u64 (Z4 .or .u64 (Z4 .or .u64 (Z4 .or .u64 (Z4 .or .u64 (Z4 .or .u64 (Z4 .or .u64 (Z4 .or .u64 (0) (Zq .u64 (IntKind.wrap .u64 (b0)) 0)) (Zq .u64 (IntKind.wrap .u64 (b1)) 8)) (Zq .u64 (IntKind.wrap .u64 (b2)) 16)) (Zq .u64 (IntKind.wrap .u64 (b3)) 24)) (Zq .u64 (IntKind.wrap .u64 (b4)) 32)) (Zq .u64 (IntKind.wrap .u64 (b5)) 40)) (Zq .u64 (IntKind.wrap .u64 (b6)) 48)) (Zq .u64 (IntKind.wrap .u64 (b7)) 56)=b0+b1*256+b2*65536+b3*16777216+b4*4294967296+b5*1099511627776+b6*281474976710656+b7*72057594037927936:=by
  have s0:=Zju 0 (by decide) h0
  have s1:=Zju 8 (by decide) h1
  have s2:=Zju 16 (by decide) h2
  have s3:=Zju 24 (by decide) h3
  have s4:=Zju 32 (by decide) h4
  have s5:=Zju 40 (by decide) h5
  have s6:=Zju 48 (by decide) h6
  have s7:=Zju 56 (by decide) h7
  have t0:Zq .u64 (IntKind.wrap .u64 b0) 0=b0*1:=s0
  have t1:Zq .u64 (IntKind.wrap .u64 b1) 8=b1*256:=s1
  have t2:Zq .u64 (IntKind.wrap .u64 b2) 16=b2*65536:=s2
  have t3:Zq .u64 (IntKind.wrap .u64 b3) 24=b3*16777216:=s3
  have t4:Zq .u64 (IntKind.wrap .u64 b4) 32=b4*4294967296:=s4
  have t5:Zq .u64 (IntKind.wrap .u64 b5) 40=b5*1099511627776:=s5
  have t6:Zq .u64 (IntKind.wrap .u64 b6) 48=b6*281474976710656:=s6
  have t7:Zq .u64 (IntKind.wrap .u64 b7) 56=b7*72057594037927936:=s7
  rw [t0,t1,t2,t3,t4,t5,t6,t7]
  rw [Z0d 0 (x:=b0*1) (y:=0) (a:=b0) rfl (by omega) (by omega) (by decide) (by omega)]
  rw [Z0d 8 (x:=b1*256) (a:=b1) rfl (by omega) (by omega) (by show _<(256:Int); omega) (by omega)]
  rw [Z0d 16 (x:=b2*65536) (a:=b2) rfl (by omega) (by omega) (by show _<(65536:Int); omega) (by omega)]
  rw [Z0d 24 (x:=b3*16777216) (a:=b3) rfl (by omega) (by omega) (by show _<(16777216:Int); omega) (by omega)]
  rw [Z0d 32 (x:=b4*4294967296) (a:=b4) rfl (by omega) (by omega) (by show _<(4294967296:Int); omega) (by omega)]
  rw [Z0d 40 (x:=b5*1099511627776) (a:=b5) rfl (by omega) (by omega) (by show _<(1099511627776:Int); omega) (by omega)]
  rw [Z0d 48 (x:=b6*281474976710656) (a:=b6) rfl (by omega) (by omega) (by show _<(281474976710656:Int); omega) (by omega)]
  rw [Z0d 56 (x:=b7*72057594037927936) (a:=b7) rfl (by omega) (by omega) (by show _<(72057594037927936:Int); omega) (by omega)]
  omega
theorem Zlp {p:List Int} (h:Byt p) : ∃ r,Z6j p=some r∧W64 r∧r.length=4∧V4 r=Z6w p:=by
  refine ⟨_,Zh3 p,Zgb ?_,rfl,?_⟩
  · repeat' (first | exact Zjg _ _ | exact List.forall_mem_nil _ | refine List.forall_mem_cons.2 ⟨?_,?_⟩)
  · unfold V4
    simp only [List.getD_cons_zero,List.getD_cons_succ]
    rw [Zim (h 0) (h 1) (h 2) (h 3) (h 4) (h 5) (h 6) (h 7)]
    rw [Zim (h 8) (h 9) (h 10) (h 11) (h 12) (h 13) (h 14) (h 15)]
    rw [Zim (h 16) (h 17) (h 18) (h 19) (h 20) (h 21) (h 22) (h 23)]
    rw [Zim (h 24) (h 25) (h 26) (h 27) (h 28) (h 29) (h 30) (h 31)]
    unfold Z6w
    omega
theorem Z1q (x:Int):Zh .u64 x 8=x / 256:=by have:=Zc8 .u64 (x:=x) (n:=8) (by decide); simpa using this
theorem Zti {p:List Int} (h:W64 p):V4 p%18446744073709551616=p.getD 0 0∧V4 p / 18446744073709551616%18446744073709551616=p.getD 1 0∧V4 p / 340282366920938463463374607431768211456%18446744073709551616=p.getD 2 0∧V4 p / 6277101735386680763835789423207666416102355444464034512896%18446744073709551616=p.getD 3 0:=by
  have h0:=h 0
  have h1:=h 1
  have h2:=h 2
  have h3:=h 3
  unfold V4
  refine ⟨by omega,by omega,by omega,by omega⟩
theorem sb_0 {n x:Int} (h:n%18446744073709551616=x):IntKind.wrap .u8 (x)=n%256:=by
  simp only [Z1q,Z0c]
  omega
theorem sb_1 {n x:Int} (h:n%18446744073709551616=x):IntKind.wrap .u8 (Zh .u64 (x) 8)=n / 256%256:=by
  simp only [Z1q,Z0c]
  omega
theorem sb_2 {n x:Int} (h:n%18446744073709551616=x):IntKind.wrap .u8 (Zh .u64 (Zh .u64 (x) 8) 8)=n / 65536%256:=by
  simp only [Z1q,Z0c]
  omega
theorem sb_3 {n x:Int} (h:n%18446744073709551616=x):IntKind.wrap .u8 (Zh .u64 (Zh .u64 (Zh .u64 (x) 8) 8) 8)=n / 16777216%256:=by
  simp only [Z1q,Z0c]
  omega
theorem sb_4 {n x:Int} (h:n%18446744073709551616=x):IntKind.wrap .u8 (Zh .u64 (Zh .u64 (Zh .u64 (Zh .u64 (x) 8) 8) 8) 8)=n / 4294967296%256:=by
  simp only [Z1q,Z0c]
  omega
theorem sb_5 {n x:Int} (h:n%18446744073709551616=x):IntKind.wrap .u8 (Zh .u64 (Zh .u64 (Zh .u64 (Zh .u64 (Zh .u64 (x) 8) 8) 8) 8) 8)=n / 1099511627776%256:=by
  simp only [Z1q,Z0c]
  omega
theorem sb_6 {n x:Int} (h:n%18446744073709551616=x):IntKind.wrap .u8 (Zh .u64 (Zh .u64 (Zh .u64 (Zh .u64 (Zh .u64 (Zh .u64 (x) 8) 8) 8) 8) 8) 8)=n / 281474976710656%256:=by
  simp only [Z1q,Z0c]
  omega
theorem sb_7 {n x:Int} (h:n%18446744073709551616=x):IntKind.wrap .u8 (Zh .u64 (Zh .u64 (Zh .u64 (Zh .u64 (Zh .u64 (Zh .u64 (Zh .u64 (x) 8) 8) 8) 8) 8) 8) 8)=n / 72057594037927936%256:=by
  simp only [Z1q,Z0c]
  omega
theorem sb_8 {n x:Int} (h:n / 18446744073709551616%18446744073709551616=x):IntKind.wrap .u8 (x)=n / 18446744073709551616%256:=by
  simp only [Z1q,Z0c]
  omega
theorem sb_9 {n x:Int} (h:n / 18446744073709551616%18446744073709551616=x):IntKind.wrap .u8 (Zh .u64 (x) 8)=n / 4722366482869645213696%256:=by
  simp only [Z1q,Z0c]
  omega
theorem Z0lj {n x:Int} (h:n / 18446744073709551616%18446744073709551616=x):IntKind.wrap .u8 (Zh .u64 (Zh .u64 (x) 8) 8)=n / 1208925819614629174706176%256:=by
  simp only [Z1q,Z0c]
  omega
theorem Z0lk {n x:Int} (h:n / 18446744073709551616%18446744073709551616=x):IntKind.wrap .u8 (Zh .u64 (Zh .u64 (Zh .u64 (x) 8) 8) 8)=n / 309485009821345068724781056%256:=by
  simp only [Z1q,Z0c]
  omega
theorem Z0ll {n x:Int} (h:n / 18446744073709551616%18446744073709551616=x):IntKind.wrap .u8 (Zh .u64 (Zh .u64 (Zh .u64 (Zh .u64 (x) 8) 8) 8) 8)=n / 79228162514264337593543950336%256:=by
  simp only [Z1q,Z0c]
  omega
theorem Z0lm {n x:Int} (h:n / 18446744073709551616%18446744073709551616=x):IntKind.wrap .u8 (Zh .u64 (Zh .u64 (Zh .u64 (Zh .u64 (Zh .u64 (x) 8) 8) 8) 8) 8)=n / 20282409603651670423947251286016%256:=by
  simp only [Z1q,Z0c]
  omega
theorem Z0ln {n x:Int} (h:n / 18446744073709551616%18446744073709551616=x):IntKind.wrap .u8 (Zh .u64 (Zh .u64 (Zh .u64 (Zh .u64 (Zh .u64 (Zh .u64 (x) 8) 8) 8) 8) 8) 8)=n / 5192296858534827628530496329220096%256:=by
  simp only [Z1q,Z0c]
  omega
theorem Z0lo {n x:Int} (h:n / 18446744073709551616%18446744073709551616=x):IntKind.wrap .u8 (Zh .u64 (Zh .u64 (Zh .u64 (Zh .u64 (Zh .u64 (Zh .u64 (Zh .u64 (x) 8) 8) 8) 8) 8) 8) 8)=n / 1329227995784915872903807060280344576%256:=by
  simp only [Z1q,Z0c]
  omega
theorem Z0lp {n x:Int} (h:n / 340282366920938463463374607431768211456%18446744073709551616=x):IntKind.wrap .u8 (x)=n / 340282366920938463463374607431768211456%256:=by
  simp only [Z1q,Z0c]
  omega
theorem Z0lq {n x:Int} (h:n / 340282366920938463463374607431768211456%18446744073709551616=x):IntKind.wrap .u8 (Zh .u64 (x) 8)=n / 87112285931760246646623899502532662132736%256:=by
  simp only [Z1q,Z0c]
  omega
theorem Z0lr {n x:Int} (h:n / 340282366920938463463374607431768211456%18446744073709551616=x):IntKind.wrap .u8 (Zh .u64 (Zh .u64 (x) 8) 8)=n / 22300745198530623141535718272648361505980416%256:=by
  simp only [Z1q,Z0c]
  omega
theorem Z0ls {n x:Int} (h:n / 340282366920938463463374607431768211456%18446744073709551616=x):IntKind.wrap .u8 (Zh .u64 (Zh .u64 (Zh .u64 (x) 8) 8) 8)=n / 5708990770823839524233143877797980545530986496%256:=by
  simp only [Z1q,Z0c]
  omega
theorem Z0lt {n x:Int} (h:n / 340282366920938463463374607431768211456%18446744073709551616=x):IntKind.wrap .u8 (Zh .u64 (Zh .u64 (Zh .u64 (Zh .u64 (x) 8) 8) 8) 8)=n / 1461501637330902918203684832716283019655932542976%256:=by
  simp only [Z1q,Z0c]
  omega
theorem Z0lu {n x:Int} (h:n / 340282366920938463463374607431768211456%18446744073709551616=x):IntKind.wrap .u8 (Zh .u64 (Zh .u64 (Zh .u64 (Zh .u64 (Zh .u64 (x) 8) 8) 8) 8) 8)=n / 374144419156711147060143317175368453031918731001856%256:=by
  simp only [Z1q,Z0c]
  omega
theorem Z0lv {n x:Int} (h:n / 340282366920938463463374607431768211456%18446744073709551616=x):IntKind.wrap .u8 (Zh .u64 (Zh .u64 (Zh .u64 (Zh .u64 (Zh .u64 (Zh .u64 (x) 8) 8) 8) 8) 8) 8)=n / 95780971304118053647396689196894323976171195136475136%256:=by
  simp only [Z1q,Z0c]
  omega
theorem Z0lw {n x:Int} (h:n / 340282366920938463463374607431768211456%18446744073709551616=x):IntKind.wrap .u8 (Zh .u64 (Zh .u64 (Zh .u64 (Zh .u64 (Zh .u64 (Zh .u64 (Zh .u64 (x) 8) 8) 8) 8) 8) 8) 8)=n / 24519928653854221733733552434404946937899825954937634816%256:=by
  simp only [Z1q,Z0c]
  omega
theorem Z0lx {n x:Int} (h:n / 6277101735386680763835789423207666416102355444464034512896%18446744073709551616=x):IntKind.wrap .u8 (x)=n / 6277101735386680763835789423207666416102355444464034512896%256:=by
  simp only [Z1q,Z0c]
  omega
theorem Z0ly {n x:Int} (h:n / 6277101735386680763835789423207666416102355444464034512896%18446744073709551616=x):IntKind.wrap .u8 (Zh .u64 (x) 8)=n / 1606938044258990275541962092341162602522202993782792835301376%256:=by
  simp only [Z1q,Z0c]
  omega
theorem Z0lz {n x:Int} (h:n / 6277101735386680763835789423207666416102355444464034512896%18446744073709551616=x):IntKind.wrap .u8 (Zh .u64 (Zh .u64 (x) 8) 8)=n / 411376139330301510538742295639337626245683966408394965837152256%256:=by
  simp only [Z1q,Z0c]
  omega
theorem Z0m0 {n x:Int} (h:n / 6277101735386680763835789423207666416102355444464034512896%18446744073709551616=x):IntKind.wrap .u8 (Zh .u64 (Zh .u64 (Zh .u64 (x) 8) 8) 8)=n / 105312291668557186697918027683670432318895095400549111254310977536%256:=by
  simp only [Z1q,Z0c]
  omega
theorem Z0m1 {n x:Int} (h:n / 6277101735386680763835789423207666416102355444464034512896%18446744073709551616=x):IntKind.wrap .u8 (Zh .u64 (Zh .u64 (Zh .u64 (Zh .u64 (x) 8) 8) 8) 8)=n / 26959946667150639794667015087019630673637144422540572481103610249216%256:=by
  simp only [Z1q,Z0c]
  omega
theorem Z0m2 {n x:Int} (h:n / 6277101735386680763835789423207666416102355444464034512896%18446744073709551616=x):IntKind.wrap .u8 (Zh .u64 (Zh .u64 (Zh .u64 (Zh .u64 (Zh .u64 (x) 8) 8) 8) 8) 8)=n / 6901746346790563787434755862277025452451108972170386555162524223799296%256:=by
  simp only [Z1q,Z0c]
  omega
theorem Z0m3 {n x:Int} (h:n / 6277101735386680763835789423207666416102355444464034512896%18446744073709551616=x):IntKind.wrap .u8 (Zh .u64 (Zh .u64 (Zh .u64 (Zh .u64 (Zh .u64 (Zh .u64 (x) 8) 8) 8) 8) 8) 8)=n / 1766847064778384329583297500742918515827483896875618958121606201292619776%256:=by
  simp only [Z1q,Z0c]
  omega
theorem Z0m4 {n x:Int} (h:n / 6277101735386680763835789423207666416102355444464034512896%18446744073709551616=x):IntKind.wrap .u8 (Zh .u64 (Zh .u64 (Zh .u64 (Zh .u64 (Zh .u64 (Zh .u64 (Zh .u64 (x) 8) 8) 8) 8) 8) 8) 8)=n / 452312848583266388373324160190187140051835877600158453279131187530910662656%256:=by
  simp only [Z1q,Z0c]
  omega
theorem Zk0 {p:List Int} (h:W64 p):Z4p p=some (byt (V4 p)):=by
  obtain ⟨e0,e1,e2,e3⟩:=Zti h
  rw [Zjz]
  unfold byt
  rw [sb_0 e0,sb_1 e0,sb_2 e0,sb_3 e0,sb_4 e0,sb_5 e0,sb_6 e0,sb_7 e0,sb_8 e1,sb_9 e1,Z0lj e1,Z0lk e1,Z0ll e1,Z0lm e1,Z0ln e1,Z0lo e1,Z0lp e2,Z0lq e2,Z0lr e2,Z0ls e2,Z0lt e2,Z0lu e2,Z0lv e2,Z0lw e2,Z0lx e3,Z0ly e3,Z0lz e3,Z0m0 e3,Z0m1 e3,Z0m2 e3,Z0m3 e3,Z0m4 e3]
theorem Zik {n:Int} (h0:0≤n) (h1:n<115792089237316195423570985008687907853269984665640564039457584007913129639936):Z6w (byt n)=n:=by
  simp only [Z6w,byt,List.getD_cons_zero,List.getD_cons_succ]
  omega
theorem Zv9 (r:List Int):pV r 4=V4 r:=by
  simp only [pV,V4]
  have e1:(18446744073709551616:Int)^0=1:=by decide
  have e2:(18446744073709551616:Int)^1=18446744073709551616:=by decide
  have e3:(18446744073709551616:Int)^2=340282366920938463463374607431768211456:=by decide
  have e4:(18446744073709551616:Int)^3=6277101735386680763835789423207666416102355444464034512896:=by decide
  rw [e1,e2,e3,e4]
  omega
theorem Zgc {p:List Int} (h:Byt p) : ∃ r,Z5t p=some r∧W64 r∧r.length=4∧pV r r.length=Z6w p:=by
  obtain ⟨r,e,w,l,v⟩:=Zlp h
  refine ⟨r,?_,w,l,by rw [l,Zv9,v]⟩
  rw [Z5t,Z3 e,Zd6 l]
theorem Zos {p:List Int} (h:Byt p) : ∃ r,Z92 p=some r∧W64 r∧V4 r=Z6w p%VL:=by
  obtain ⟨r,e,w,l,v⟩:=Zgc h
  obtain ⟨s,e2,w2,v2⟩:=Zh8 w (by omega)
  exact ⟨s,by rw [Z92,Z3 e,Z3 e2],w2,by rw [v2,v]⟩
theorem Zio (n:Int):0≤n%VL∧n%VL<VL:=⟨Int.emod_nonneg _ (by decide),Int.emod_lt_of_pos _ (by decide)⟩
theorem Zs3 {p q:List Int} (hp:Byt p) (hq:Byt q):Zaj p q=some (byt (Z6w p*Z6w q%VL)):=by
  obtain ⟨a,e1,w1,l1,v1⟩:=Zgc hp
  obtain ⟨b,e2,w2,l2,v2⟩:=Zgc hq
  obtain ⟨c,e3,l3,w3,v3⟩:=Zk4 w1 w2 (by omega)
  obtain ⟨d,e4,w4,v4⟩:=Zh8 w3 (by omega)
  rw [Zaj,Z3 e1,Z3 e2,Z3 e3,Z3 e4,Z3 (Zk0 w4),v4,v3,v1,v2]
theorem Zs2 {p q:List Int} (hp:Byt p) (hq:Byt q):Zai p q=some (byt ((Z6w p+Z6w q)%VL)):=by
  obtain ⟨a,e1,w1,v1⟩:=Zos hp
  obtain ⟨b,e2,w2,v2⟩:=Zos hq
  obtain ⟨c,o,e3,w3,ho,v3⟩:=Zdb w1 w2
  obtain ⟨d,e4,w4,v4⟩:=Zhr w3
  have h1:=Zio (Z6w p)
  have h2:=Zio (Z6w q)
  have h3:=Za5 w3
  have e:V4 c=Z6w p%VL+Z6w q%VL:=by
    rw [v1,v2] at v3
    unfold VL B4 at *
    rcases ho with h | h <;> subst h <;> omega
  rw [Zai,Z3 e1,Z3 e2,Z3 e3,Z3 e4,Z3 (Zk0 w4),v4,e,← Int.add_emod]
theorem Zkw {p q r:List Int} (hp:Byt p) (hq:Byt q) (hr:Byt r):Z78 p q r=some (byt ((Z6w p*Z6w q+Z6w r)%VL)):=by
  have h:=Zio (Z6w p*Z6w q)
  rw [Z78,Z3 (Zs3 hp hq),Z3 (Zs2 (Zhs _) hr),Zik h.1 (by unfold VL at h ⊢; omega),Int.emod_add_emod]
theorem Zna {p:List Int} (h:Byt p):Z2b p=some (decide (Z6w p<VL)):=by
  obtain ⟨r,e,w,l,v⟩:=Zlp h
  obtain ⟨a,c,e2,wa,hc,va⟩:=Zdt w Z96
  have ha:=Za5 wa
  have hr:=Za5 w
  rw [Zhj] at va
  rw [Z2b,Z3 e,Z3 e2,← v]
  rcases hc with h | h
  · subst h
    rw [decide_eq_false (by omega)]; rfl
  · subst h
    rw [decide_eq_true (by unfold B4 at *; omega)]; rfl
theorem Zpt {α:Type} {o:Option α} (h:o.isSome=true) : ∃ r,o=some r:=by
  cases o with
  | none=>cases h
  | some r=>exact ⟨r,rfl⟩
theorem Znv (s h:List Int):(Z9w s h).isSome=true:=by kernel_rfl
theorem Zg8 (x:Int) : ∃ r,Z1b x=some r∧r.length=8:=by
  have:((Z1b x).map (·.length))=some 8:=by kernel_rfl
  cases h:Z1b x with
  | none=>rw [h] at this; cases this
  | some r=>exact ⟨r,rfl,by rw [h] at this; simpa using this⟩
theorem Znj (z:Int) (m:Nat) : ∀ (l a h:List Int) (c:Int),l.length≤m→0≤c→c<128→∀ n,∃ r,Z0i z (n+1+m) l a h c=some r∧r.glength=z∧0≤r.ghave∧r.ghave<128:=by
  induction m with
  | zero =>
    intro l a h c hl h0 h1 n
    refine ⟨⟨a,h,c,z⟩,?_,rfl,h0,h1⟩
    rw [Nat.add_zero,Z0i,Z1m,Z1h (decide_eq_false (by omega))]
  | succ m ih =>
    intro l a h c hl h0 h1 n
    by_cases he:l.length=0
    · refine ⟨⟨a,h,c,z⟩,?_,rfl,h0,h1⟩
      rw [← Nat.add_assoc,Z0i,Z1m,Z1h (decide_eq_false (by omega))]
    · have hmin:0<Nat.min l.length (128-c.toNat)∧Nat.min l.length (128-c.toNat)≤l.length∧Nat.min l.length (128-c.toNat)≤128-c.toNat:=by
        refine ⟨?_,Nat.min_le_left _ _,Nat.min_le_right _ _⟩
        show 0<min l.length (128-c.toNat)
        omega
      have ew:IntKind.wrap .i64 (c+((Nat.min l.length (128-c.toNat):Nat):Int))=c+((Nat.min l.length (128-c.toNat):Nat):Int):=Zr (by omega) (by omega)
      have hlen:(((l.drop (((Nat.min l.length (128-c.toNat):Nat):Int)).toNat).take (((l.length:Int)).toNat-(((Nat.min l.length (128-c.toNat):Nat):Int)).toNat))).length≤m:=by
        simp only [List.length_take,List.length_drop,Int.toNat_natCast]; omega
      rw [← Nat.add_assoc,Z0i,Z1m,Z21 (decide_eq_true (by omega)),Z05 (by unfold Zge; simp; omega),Ze,Z05 (by unfold Zge; simp only [Bool.and_eq_true,decide_eq_true_eq]; omega),Ze,ew]
      by_cases h128:c+((Nat.min l.length (128-c.toNat):Nat):Int)=128
      · obtain ⟨b,eb⟩:=Zpt (Znv a (wr h c.toNat (l.take (128-c.toNat))))
        rw [Z21 (by simpa using h128),Z3 eb]
        exact ih _ _ _ 0 hlen (by omega) (by omega) n
      · rw [Z1h (by simpa using h128)]
        exact ih _ _ _ _ hlen (by omega) (by omega) n
theorem Ze7 (d:Zi) (l:List Int) (hl:l.length<18446744073709551615) (h0:0≤d.ghave) (h1:d.ghave<128) : ∃ r,Z0s d l=some r∧0≤r.ghave∧r.ghave<128∧r.glength=IntKind.wrap .u64 (d.glength+IntKind.wrap .u64 (l.length:Int)):=by
  obtain ⟨n,hn⟩ : ∃ n',big=n'+1+l.length:=⟨18446744073709551615-l.length,by have:big=18446744073709551616:=Z47; omega⟩
  rw [Z0s,Ze,Ze,hn]
  obtain ⟨r,e,hz,hh⟩:=Znj (IntKind.wrap .u64 (d.glength+IntKind.wrap .u64 (l.length:Int))) l.length l d.gstate d.gheld d.ghave (Nat.le_refl _) h0 h1 n
  exact ⟨r,e,hh.1,hh.2,hz⟩
theorem Zp7 (x:Int) : ∃ r,Z82 x=some r∧r.length≤1000:=by
  have hz3:=Zq6 (x+17)
  obtain ⟨y1,e1,l1⟩:=Zg8 (Zh .u64 x 61)
  obtain ⟨y2,e2,l2⟩:=Zg8 (Zq .u64 x 3)
  generalize hz:IntKind.wrap .u64 (x+17)=z3 at hz3
  have et:Int.tmod z3 128=z3%128:=Int.tmod_eq_emod_of_nonneg hz3.1
  have ew:IntKind.wrap .i64 (z3%128)=z3%128:=Zr (by omega) (by omega)
  have ew2:IntKind.wrap .i64 (128-z3%128)=128-z3%128:=Zr (by omega) (by omega)
  have et2:Int.tmod (128-z3%128) 128=(128-z3%128)%128:=Int.tmod_eq_emod_of_nonneg (by omega)
  simp only [Z82,Ze,hz,et,ew,ew2,et2]
  have hr:0≤(128-z3%128)%128∧(128-z3%128)%128<128:=by omega
  generalize (128-z3%128)%128=w at hr
  have ew3:IntKind.wrap .i64 (17+w)=17+w:=Zr (by omega) (by omega)
  simp only [ew3]
  refine ⟨(((List.replicate 0 0 ++ [128])++List.replicate w.toNat 0)++y1)++y2,?_,?_⟩
  · rw [Z05 (by unfold mkB; simp only [Bool.and_eq_true,decide_eq_true_eq]; omega),Z05 (by simp),Z05 (by simp; omega),Z05 (by simp; omega),Z3 e1,Z05 (by simp [l1]; omega),Z3 e2,Z05 (by simp [l1,l2]; omega)]
  · simp [l1,l2]; omega
theorem Zw3 (y d:Zi):(Z1k y (fun a74=>some (a74,d)) big 0 (List.replicate 64 0)).isSome=true:=by kernel_rfl
theorem Zw4 (d:Zi) (h0:0≤d.ghave) (h1:d.ghave<128) : ∃ r,Z1y d=some r:=by
  obtain ⟨p,e,hl⟩:=Zp7 d.glength
  obtain ⟨y,e2,_⟩:=Ze7 d p (by omega) h0 h1
  obtain ⟨r,e3⟩:=Zpt (Zw3 y d)
  refine ⟨r,?_⟩
  rw [Z1y,Z3h,Z3 rfl]
  show opt (Z82 d.glength) _=_
  rw [Z3 e]
  show opt (Z0s d p) _=_
  rw [Z3 e2,Z2f,e3]
theorem Zoj {p:List (List Int)} (hp : ∀ i,(p.getD i []).length<18446744073709551615) (hb:p.length<1000000) {k:List Int→List Int→Int→Int→Option (List Int)} (hk : ∀ a b c d,0≤c→c<128→∃ r,k a b c d=some r∧Byt r∧r.length=32) (m:Nat) : ∀ (n i:Nat) (a b:List Int) (c d:Int),i+m=p.length→0≤c→c<128 →
    ∃ r,Z4r p k (n+1+m) (i:Int) a b c d=some r∧Byt r∧r.length=32:=by
  induction m with
  | zero =>
    intro n i a b c d hi h0 h1
    rw [Nat.add_zero,Z4r,Z8q,Z1h (decide_eq_false (by omega))]
    exact hk a b c d h0 h1
  | succ m ih =>
    intro n i a b c d hi h0 h1
    have e1:IntKind.wrap .i64 ((i:Int)+1)=((i+1:Nat):Int):=by rw [Zr (by omega) (by omega)]; rfl
    obtain ⟨y,e,g0,g1,_⟩:=Ze7 ⟨a,b,c,d⟩ (p.getD i []) (hp i) h0 h1
    rw [← Nat.add_assoc,Z4r,Z8q,Z21 (decide_eq_true (by omega)),Z05 (Z2j (by omega) (by omega)),Int.toNat_natCast,Z3 e,Ze,e1]
    exact ih n (i+1) _ _ _ _ (by omega) g0 g1
theorem Zhx {p:List (List Int)} (hp : ∀ i,(p.getD i []).length<18446744073709551615) (hb:p.length<1000000) : ∃ r,Z7c p=some r∧Byt r∧r.length=32:=by
  obtain ⟨n,hn⟩ : ∃ n',big=n'+1+p.length:=⟨18446744073709551615-p.length,by have:big=18446744073709551616:=Z47; omega⟩
  rw [Z7c,Z93,Z3 rfl,Z2f,hn]
  refine Zoj hp hb ?_ p.length n 0 _ _ _ _ (by omega) (by decide) (by decide)
  intro a b c d h0 h1
  obtain ⟨r,e⟩:=Zw4 ⟨a,b,c,d⟩ h0 h1
  obtain ⟨s,e2,hs⟩:=Zmj r.1
  refine ⟨s,?_,hs⟩
  rw [Z3 e,Z3 e2]
theorem Zmc {p:List Int} (h:Byt p) (o n:Nat):Byt (tk p o n):=by
  intro i
  rw [Zga]
  split
  · exact h _
  · decide
theorem Zng {k m s:List Int} (hk:Byt k) (hm:m.length<18446744073709551615) (hs:Byt s) : ∃ b,Z28 k m s=some b:=by
  rw [Z28,Z3 (Ziz hk)]
  obtain ⟨c,hc⟩:=Zht (tk (tk s 32 (64-32)) 0 32)
  rw [Z05 (by rw [Zy]; decide),Ze,hc,Z05 (by simp [imp])]
  by_cases hd:dok k=true
  · rw [if_pos hd]
    cases c
    · exact ⟨false,Z21 rfl⟩
    · obtain ⟨h,eh,hb,hl⟩:=Zhx (p:=[(tk s 0 32),(tk k 0 32),m]) (by
        intro i
        match i with
        | 0=>show (tk s 0 32).length<_; rw [Zy]; decide
        | 1=>show (tk k 0 32).length<_; rw [Zy]; decide
        | 2=>exact hm
        | i+3=>show ([]:List Int).length<_; decide) (by simp)
      rw [Z1h (c:=(!(pt (dpt k),true).snd || !(some true).getD false)) rfl,Z2f,Z3 eh]
      show ∃ b,opt (Z99 (pt (dpt k))) _=some b
      rw [Z3 (Zo5 _),Z3 (Zgw hb (Zmc (Zmc hs _ _) _ _) _),Z3 (Zj2 _),Z05 (by rw [Zy]; decide),Ze]
      exact ⟨_,rfl⟩
  · rw [if_neg hd]
    exact ⟨false,Z21 rfl⟩
noncomputable def Zis:G:=⟨fi BX,fi BY,⟨by decide +kernel⟩⟩
theorem Zia:Rep Zi8 Zis:=by
  constructor
  · show fi 1≠0; decide +kernel
  · show fi BX=fi BX*fi 1; decide +kernel
  · show fi BY=fi BY*fi 1; decide +kernel
  · show fi (BX*BY)=fi BX*fi BY*fi 1; decide +kernel
def lby:List Int:=[237,211,245,92,26,99,18,88,214,156,247,162,222,249,222,20,0,0,0,0,0,0,0,0,0,0,0,0,0,0,0,16]
theorem Zuw:Byt lby:=byt_of (by decide)
theorem Zux:Z6w lby=VL:=by decide +kernel
theorem lq_x:((Zh7 lby Zi8 64).x,(Zh7 lby Zi8 64).y-(Zh7 lby Zi8 64).z)=(0,0):=by kernel_rfl
theorem Zrx {q:Q4} {P:G} (h:Rep q P) (hx:q.x=0) (hy:q.y-q.z=0):P=Z7i:=by
  have e1:=h.x
  have e2:=h.y
  have hz:=h.z
  rw [hx,fi_0] at e1
  have hy':q.y=q.z:=by omega
  rw [hy'] at e2
  generalize fi q.z=z at *
  refine Zmh ?_ ?_
  · have z1:Z7i.x=0:=rfl
    rw [z1]
    exact (Z85 (a:=P.x) (b:=z) e1.symm).resolve_right hz
  · have z2:Z7i.y=1:=rfl
    rw [z2]
    have e3:(P.y-1)*z=0:=by
      generalize P.y=y at *
      clear e1 hx hy h
      grind -lia -linarith (splits:=0)
    exact Zg9 _ _ ((Z85 e3).resolve_right hz)
def VLn:Nat:=7237005577332262213973186563042994240857116359379907606001950938285454250989
theorem Zwj:VL=(VLn:Int):=by decide
theorem Zn3:Zbn VLn Zis=Z7i:=by
  have h:=Zib lby Zia 64
  have e:Zoy lby 64=VLn:=by rw [Zi1 Zuw,Zux]; decide
  rw [e] at h
  have hq:=lq_x
  simp only [Prod.mk.injEq] at hq
  exact Zrx h hq.1 hq.2
theorem Zrb (n:Nat):Zbn (n%VLn) Zis=Zbn n Zis:=by
  have h:=Nat.div_add_mod n VLn
  generalize n / VLn=q at *
  generalize hr:n%VLn=r at *
  rw [← h,Nat.mul_comm,Zck,Z9t,Zn3,Zjd,Zgd]
theorem Znd (h a r s:Nat) (hs:s=(h*a+r)%VLn):Z8s (Zbn h (Zkb (Zbn a Zis))) (Zbn s Zis)=Zbn r Zis:=by
  rw [hs,Zrb,Zck,Z9t,← Z7n,← Zjc,Zrf,Zjd,Zgd]
def be8 (x:Int):List Int:=[IntKind.wrap .u8 (Zh .u64 (Zh .u64 (Zh .u64 (Zh .u64 (Zh .u64 (Zh .u64 (Zh .u64 x 8) 8) 8) 8) 8) 8) 8),IntKind.wrap .u8 (Zh .u64 (Zh .u64 (Zh .u64 (Zh .u64 (Zh .u64 (Zh .u64 x 8) 8) 8) 8) 8) 8),IntKind.wrap .u8 (Zh .u64 (Zh .u64 (Zh .u64 (Zh .u64 (Zh .u64 x 8) 8) 8) 8) 8),IntKind.wrap .u8 (Zh .u64 (Zh .u64 (Zh .u64 (Zh .u64 x 8) 8) 8) 8),IntKind.wrap .u8 (Zh .u64 (Zh .u64 (Zh .u64 x 8) 8) 8),IntKind.wrap .u8 (Zh .u64 (Zh .u64 x 8) 8),IntKind.wrap .u8 (Zh .u64 x 8),IntKind.wrap .u8 x]
theorem Ztp (x:Int) : ∀ y∈be8 x,0≤y∧y<256:=by
  unfold be8
  repeat' (first | exact List.forall_mem_nil _ | refine List.forall_mem_cons.2 ⟨Zk5 _,?_⟩)
def told (s:List Int):List Int:=be8 (s.getD 0 0)++(be8 (s.getD 1 0)++(be8 (s.getD 2 0)++(be8 (s.getD 3 0)++(be8 (s.getD 4 0)++(be8 (s.getD 5 0)++(be8 (s.getD 6 0)++be8 (s.getD 7 0)))))))
theorem Zs9 (y d:Zi):Z1k y (fun a74=>some (a74,d)) big 0 (List.replicate 64 0)=some (told y.gstate,d):=by kernel_rfl
theorem Zsc (s:List Int):Byt (told s):=by
  apply byt_of
  unfold told
  intro x hx
  simp only [List.mem_append] at hx
  rcases hx with h | h | h | h | h | h | h | h <;> exact Ztp _ _ h
theorem Zw2 (d:Zi) (h0:0≤d.ghave) (h1:d.ghave<128) : ∃ r,Z1y d=some r∧Byt r.1∧r.1.length=64:=by
  obtain ⟨p,e,hl⟩:=Zp7 d.glength
  obtain ⟨y,e2,_⟩:=Ze7 d p (by omega) h0 h1
  refine ⟨(told y.gstate,d),?_,Zsc _,rfl⟩
  rw [Z1y,Z3h,Z3 rfl]
  show opt (Z82 d.glength) _=_
  rw [Z3 e]
  show opt (Z0s d p) _=_
  rw [Z3 e2,Z2f,Zs9]
theorem Zth {p:List Int} (hp:p.length<18446744073709551615) : ∃ r,Z94 p=some r∧Byt r∧r.length=64:=by
  obtain ⟨y,e,h0,h1,_⟩:=Ze7 ⟨G_first,List.replicate 128 0,0,0⟩ p hp (by decide) (by decide)
  obtain ⟨r,e2,hb,hl⟩:=Zw2 y h0 h1
  refine ⟨r.1,?_,hb,hl⟩
  rw [Z94,Z93,Z3 rfl]
  show opt (Z0s ⟨G_first,List.replicate 128 0,0,0⟩ p) _=_
  rw [Z3 e,Z3 e2]
theorem Ziu (o:BinOp) (x y:Int) (h:o = .and∨o = .or∨o = .andNot):0≤Z4 o .u8 x y∧Z4 o .u8 x y<256:=by
  rcases h with h | h | h <;> subst h
  · show 0≤IntKind.u8.wrap _∧IntKind.u8.wrap _<_; exact Zk5 _
  · show 0≤IntKind.u8.wrap _∧IntKind.u8.wrap _<_; exact Zk5 _
  · show 0≤IntKind.u8.wrap _∧IntKind.u8.wrap _<_; exact Zk5 _
def Zlf (p:List Int):List Int:=Z4h (Z4h p 0 (Z4 .andNot .u8 (p.getD 0 0) 7)) 31 (Z4 .or .u8 (Z4 .and .u8 ((Z4h p 0 (Z4 .andNot .u8 (p.getD 0 0) 7)).getD 31 0) 127) 64)
theorem Zqq (p:List Int):Z8o p=some (Zlf p):=by
  rw [Z8o]
  simp only [Ze]
  rfl
theorem Zo4 {p:List Int} (h:Byt p):Byt (Zlf p):=Zfi (Zfi h (Ziu _ _ _ (.inr (.inr rfl)))) (Ziu _ _ _ (.inr (.inl rfl)))
theorem Zmw (s:List Int) : ∃ h,Z94 (tk s 0 32)=some h∧Byt h∧h.length=64∧Z83 s=some (Zlf (tk h 0 32),tk h 32 32):=by
  obtain ⟨h,e,hb,hl⟩:=Zth (p:=tk s 0 32) (by rw [Zy]; decide)
  refine ⟨h,e,hb,hl,?_⟩
  have e2:tk (tk h 0 32) 0 32=tk h 0 32:=Zd6 (Zy _ _ _)
  rw [Z83,Z3 e,Z05 (by rw [Zy]; rfl),Ze,e2,Z3 (Zqq _)]
noncomputable def pB (a:List Int):G:=Zbn (Z6w a).toNat Zis
theorem Zfu {a:List Int} (h:Byt a) : ∃ q,Z3q a=some (pt q)∧Rep q (pB a):=by
  refine ⟨_,Zn0 h,?_⟩
  have:=Zib a Zia 64
  rw [Zi1 h] at this
  exact this
theorem Zcf {q:Q4} {P:G} (h:Rep q P):Z3p (pt q)=some (Zbl P):=by rw [Zj2,Zuk h]
theorem Zhu (P:G):Byt (Zbl P):=Zuj _ _
theorem Z2y (P:G):(Zbl P).length=32:=Zmr _ _
theorem Zmd (P:G):tk (Zbl P) 0 32=Zbl P:=Zd6 (Z2y P)
theorem Z02d {x y:List Int} (hx:x.length=32) (hy:y.length=32):wr (wr (List.replicate 64 0) 0 (x.take 32)) 32 (y.take (64-32))=x++y:=by
  have h1:x.take 32=x:=List.take_of_length_le (by omega)
  have h2:y.take (64-32)=y:=List.take_of_length_le (by omega)
  rw [h1,h2]
  have h3:wr (List.replicate 64 0) 0 x=x++List.replicate 32 0:=by
    unfold wr
    rw [hx]
    rfl
  have h4:tk (x++List.replicate 32 0) 0 32=x:=by
    apply List.ext_getElem
    · rw [Zy,hx]
    · intro i h1 h2
      simp only [tk,List.getElem_map,List.getElem_range,Nat.zero_add]
      rw [List.getD_eq_getElem?_getD,List.getElem?_append_left h2,List.getElem?_eq_getElem h2]
      rfl
  have h5:(x++List.replicate 32 (0:Int)).drop (32+32) = []:=List.drop_eq_nil_of_le (by simp [hx])
  rw [h3]
  unfold wr
  rw [h4,hy,h5,List.append_nil]
theorem Zw6 {x y:List Int} (hx:x.length=32):tk (x++y) 0 32=x:=by
  apply List.ext_getElem
  · rw [Zy,hx]
  · intro i h1 h2
    simp only [tk,List.getElem_map,List.getElem_range,Nat.zero_add]
    rw [List.getD_eq_getElem?_getD,List.getElem?_append_left h2,List.getElem?_eq_getElem h2]
    rfl
theorem Zsb {x y:List Int} (hx:x.length=32) (hy:y.length=32):tk (x++y) 32 32=y:=by
  apply List.ext_getElem
  · rw [Zy,hy]
  · intro i h1 h2
    simp only [tk,List.getElem_map,List.getElem_range]
    rw [List.getD_eq_getElem?_getD,List.getElem?_append_right (by omega),show 32+i-x.length=i by omega,List.getElem?_eq_getElem h2]
    rfl
theorem Z06q {a b m:List Int} (ha:a.length=32) (hb:b.length=32) (hm:m.length<18446744073709551615) : ∀ i,(([a,b,m]:List (List Int)).getD i []).length<18446744073709551615:=by
  intro i
  match i with
  | 0=>show a.length<_; omega
  | 1=>show b.length<_; omega
  | 2=>exact hm
  | i+3=>show ([]:List Int).length<_; decide
theorem Z06p {a m:List Int} (ha:a.length=32) (hm:m.length<18446744073709551615) : ∀ i,(([a,m]:List (List Int)).getD i []).length<18446744073709551615:=by
  intro i
  match i with
  | 0=>show a.length<_; omega
  | 1=>exact hm
  | i+2=>show ([]:List Int).length<_; decide
structure Sgn (s m:List Int) (a r k:List Int):Prop where
  ba:Byt a
  br:Byt r
  bk:Byt k
  pub:Z4w s=some (Zbl (pB a))
  hash:Z7c [Zbl (pB r),Zbl (pB a),m]=some k
  sig:Z8p s m=some (Zbl (pB r)++byt ((Z6w k*Z6w a+Z6w r)%VL))
theorem Zps (s:List Int) {m:List Int} (hm:m.length<18446744073709551615) : ∃ a r k,Sgn s m a r k:=by
  obtain ⟨h,e,hb,hl,eh⟩:=Zmw s
  have ba:=Zo4 (Zmc hb 0 32)
  obtain ⟨q,eq1,rq⟩:=Zfu ba
  obtain ⟨r,er,br,lr⟩:=Zhx (p:=[tk h 32 32,m]) (Z06p (Zy _ _ _) hm) (by simp)
  obtain ⟨q2,eq2,rq2⟩:=Zfu br
  obtain ⟨k,ek,bk,lk⟩:=Zhx (p:=[Zbl (pB r),Zbl (pB (Zlf (tk h 0 32))),m]) (Z06q (Z2y _) (Z2y _) hm) (by simp)
  refine ⟨_,r,k,ba,br,bk,?_,ek,?_⟩
  · rw [Z4w,Z3 eh,Z3 eq1,Z3 (Zcf rq)]
  · rw [Z8p,Z3 eh,Z3 eq1,Z3 (Zcf rq),Z3 er,Z3 eq2,Z3 (Zcf rq2),Z2f,Zmd,Zmd,Z3 ek]
    dsimp only
    rw [Z3 (Zkw bk ba br),Ze,Ze,Zd6 (Z2t _),Z02d (Z2y _) (Z2t _)]
theorem Znh {k m s h:List Int} (hk:Byt k) (hs:Byt s) (hh:Z7c [tk s 0 32,tk k 0 32,m]=some h) (bh:Byt h) {A:G} (hA:dok k=true→Rep (dpt k) A) :
    Z28 k m s=some (dok k&&(decide (Z6w (tk s 32 32)<VL)&&decide (Zbl (Z8s (Zbn (Z6w h).toNat (Zkb A)) (pB (tk s 32 32)))=tk s 0 32))):=by
  have e0:tk (tk s 32 (64-32)) 0 32=tk s 32 32:=Zd6 (Zy _ _ _)
  have e00:tk (tk s 0 32) 0 32=tk s 0 32:=Zd6 (Zy _ _ _)
  have bt:=Zmc hs 32 32
  rw [Z28,Z3 (Ziz hk),Z05 (by rw [Zy]; rfl),Ze,e0,Zna bt,Z05 (by simp [imp])]
  cases hd:dok k
  · rw [Z21 (by rfl)]; rfl
  · have rA:=hA hd
    rw [if_pos rfl]
    by_cases hc:Z6w (tk s 32 32)<VL
    · rw [Z1h (by simp [hc]),Z2f,Z3 hh]
      show opt (Z99 (pt (dpt k))) _=_
      have rc:=Zjr h (tk s 32 32) (Zvv rA) Zia 64
      rw [Zi1 bh,Zi1 bt] at rc
      rw [Z3 (Zo5 _),Z3 (Zgw bh bt _),Z3 (Zcf rc),Z05 (by rw [Zy]; rfl),Ze,e00]
      unfold ieq pB
      rw [Zmd,Zd6 (Zy _ _ _)]
      simp [hc]
    · rw [Z21 (by simp [hc])]
      simp [hc]
theorem Zvy {a r k:List Int} (ba:Byt a) (br:Byt r) (bk:Byt k):Z8s (Zbn (Z6w k).toNat (Zkb (pB a))) (pB (byt ((Z6w k*Z6w a+Z6w r)%VL)))=pB r:=by
  have h:=Zio (Z6w k*Z6w a+Z6w r)
  unfold pB
  refine Znd _ _ _ _ ?_
  rw [Zik h.1 (by unfold VL at h ⊢; omega),Zwj]
  have h1:=Zde ba
  have h2:=Zde br
  have h3:=Zde bk
  generalize Z6w a=x at *
  generalize Z6w r=y at *
  generalize Z6w k=z at *
  obtain ⟨x',rfl⟩:=Int.eq_ofNat_of_zero_le h1
  obtain ⟨y',rfl⟩:=Int.eq_ofNat_of_zero_le h2
  obtain ⟨z',rfl⟩:=Int.eq_ofNat_of_zero_le h3
  rfl
theorem Zky {P:G} {n:Int}:Byt (Zbl P++byt n):=by
  intro i
  by_cases h:i<32
  · have e:(Zbl P++byt n).getD i 0=(Zbl P).getD i 0:=by
      simp [List.getD_eq_getElem?_getD,List.getElem?_append_left (show i<(Zbl P).length by rw [Z2y]; exact h)]
    rw [e]; exact Zhu P i
  · have e:(Zbl P++byt n).getD i 0=(byt n).getD (i-32) 0:=by
      simp only [List.getD_eq_getElem?_getD]
      rw [List.getElem?_append_right (by rw [Z2y]; omega),Z2y]
    rw [e]; exact Zhs n _
theorem Zev {s m a r k:List Int} (h:Sgn s m a r k):Z28 (Zbl (pB a)) m (Zbl (pB r)++byt ((Z6w k*Z6w a+Z6w r)%VL))=some true:=by
  have hv:=Zio (Z6w k*Z6w a+Z6w r)
  have e1:tk (Zbl (pB r)++byt ((Z6w k*Z6w a+Z6w r)%VL)) 0 32=Zbl (pB r):=Zw6 (Z2y _)
  have e2:tk (Zbl (pB r)++byt ((Z6w k*Z6w a+Z6w r)%VL)) 32 32=byt ((Z6w k*Z6w a+Z6w r)%VL):=Zsb (Z2y _) (Z2t _)
  rw [Znh (Zhu _) Zky (h:=k) (by rw [e1,Zmd]; exact h.hash) h.bk (fun _=>(Zo7 (pB a)).2)]
  rw [e1,e2,(Zo7 _).1,Zvy h.ba h.br h.bk,Zik hv.1 (by unfold VL at hv ⊢; omega)]
  simp [hv.2]
def Zd4 (l:Zp):Bool:=decide (1≤l.gEpoch)&&decide (l.gEpoch≤64)
def Zgp (l:Zp):List Int:=if Zd4 l=true then [70,66,1,11,0,0,0,l.gEpoch]++tk l.gKey 0 32 else []
theorem Zg0 (l:Zp):(Zgp l).length≤40:=by
  unfold Zgp
  split
  · rw [List.length_append,Zy]; simp
  · simp
theorem Z029 {e:Int} (h0:1≤e) (h1:e≤64):IntKind.wrap .u32 e=e∧Z3c e=some [0,0,0,e]:=by
  have h : ∀ n:Fin 65,IntKind.wrap .u32 (n.val:Int)=(n.val:Int)∧Z3c (n.val:Int)=some [0,0,0,(n.val:Int)]:=by decide +kernel
  have:=h ⟨e.toNat,by omega⟩
  have e2:((e.toNat:Nat):Int)=e:=by omega
  simp only [e2] at this
  exact this
theorem Zsy {b xs:List Int} (h:b.length+xs.length≤140737488355328):Z4g ⟨b,0⟩ xs=some ⟨b++xs,0⟩:=by
  rw [Z4g,Z21 (by rfl),Z05 (by simpa using h),Ze]
theorem Zlj {b xs:List Int} (h:b.length+xs.length≤140737488355328):Z3a ⟨b,0⟩ xs=some ⟨b++xs,0⟩:=by
  rw [Z3a,Z3 (Zsy h)]
theorem Zrv {l:Zp}:((decide (l.gEpoch<1))||(decide (l.gEpoch>64))) = !Zd4 l:=by
  have h:((decide (l.gEpoch<1))||(decide (l.gEpoch>64)))=true↔(!Zd4 l)=true   := by simp [Zd4]; try omega
  exact Bool.eq_iff_iff.2 h
theorem psay (l:Zp):Z7x l=some (!Zd4 l,Zgp l):=by
  have hl:(tk l.gKey 0 32).length=32:=Zy _ _ _
  rw [Z7x,Zrv]
  unfold Zgp
  cases hi:Zd4 l
  · rfl
  · have h2:1≤l.gEpoch∧l.gEpoch≤64:=by simpa [Zd4] using hi
    obtain ⟨e1,e2⟩:=Z029 h2.1 h2.2
    rw [Z1h (by rfl),Z3 (show Z8a=some ⟨[],0⟩ from rfl),Z3 (show Ze5 11=some (false,[70,66,1,11]) by kernel_rfl),Z3 (Zlj (by simp)),Ze,e1]
    rw [Z7g,e2,Z3 rfl,Z3 (Zsy (by simp)),Z3 rfl,Z3 (Zlj (by simp [hl])),Z6e,Z1h (by rfl)]
    rw [Z05 (by simp [hl]),Ze,Z3 rfl,Z05 (by simp [hl])]
    rfl
theorem Zy4 (s k:List Int) (e:Int) : ∃ a r kk,Sgn s (Zgp ⟨e,k,List.replicate 64 0⟩) a r kk∧Z4t s e k =
    some (if Zd4 ⟨e,k,List.replicate 64 0⟩=true then (⟨e,k,Zbl (pB r)++byt ((Z6w kk*Z6w a+Z6w r)%VL)⟩,true) else (⟨0,List.replicate 32 0,List.replicate 64 0⟩,false)):=by
  have hL:=Zg0 ⟨e,k,List.replicate 64 0⟩
  obtain ⟨a,r,kk,h⟩:=Zps s (m:=Zgp ⟨e,k,List.replicate 64 0⟩) (by omega)
  refine ⟨a,r,kk,h,?_⟩
  rw [Z4t,psay,Z3 rfl]
  cases hi:Zd4 ⟨e,k,List.replicate 64 0⟩
  · rfl
  · dsimp only
    rw [Z1h (by rfl),Z3 h.sig]
    rfl
theorem walk {α:Type} (F:Nat→Nat→Option α) {j:Nat} {R:Option α} (hj:j<18446744073709551616) (hs : ∀ i f,i<j→F (f+1) i=F f (i+1)) (he : ∀ f,F (f+1) j=R):F big 0=R:=by
  have key : ∀ d i f,i+d=j→F (f+1+d) i=R:=by
    intro d
    induction d with
    | zero => intro i f h; obtain rfl : i = j := by omega
              exact he f
    | succ d ih=>intro i f h; rw [show f+1+(d+1)=(f+1+d)+1 by omega,hs i _ (by omega)]; exact ih (i+1) f (by omega)
  obtain ⟨f,hf⟩ : ∃ f,big=f+1+j:=⟨18446744073709551615-j,by have:big=18446744073709551616:=Z47; omega⟩
  rw [hf]; exact key j 0 f (by omega)
theorem Z024 {α:Type} (F:Nat→Nat→Option α) {n:Nat} {p:Nat→Bool} {R:Nat→Option α} {E:Option α} (hn:n<18446744073709551616)
    (hs : ∀ i f,i<n→F (f+1) i=bif p i then R i else F f (i+1)) (he : ∀ f,F (f+1) n=E) :
    (∃ i,i<n∧p i=true∧(∀ j,j<i→p j=false)∧F big 0=R i)∨((∀ i,i<n→p i=false)∧F big 0=E):=by
  by_cases h : ∃ i,i<n∧p i=true
  · obtain ⟨i,hi⟩:=h
    have hex : ∃ i,i<n∧p i=true:=⟨i,hi⟩
    have hmin : ∃ i,i<n∧p i=true ∧ ∀ j,j<i→p j=false:=by
      clear hs he hex
      induction i using Nat.strongRecOn with
      | _ i ih =>
        by_cases h2 : ∃ j,j<i∧p j=true
        · obtain ⟨j,hj1,hj2⟩:=h2
          exact ih j hj1 ⟨by omega,hj2⟩
        · exact ⟨i,hi.1,hi.2,fun j hj=>by
            cases hp:p j with
            | false=>rfl
            | true=>exact absurd ⟨j,hj,hp⟩ h2⟩
    obtain ⟨i,h1,h2,h3⟩:=hmin
    refine .inl ⟨i,h1,h2,h3,walk F (j:=i) (by omega) (fun k f hk=>?_) (fun f=>?_)⟩
    · rw [hs k f (by omega),h3 k hk]; rfl
    · rw [hs i f h1,h2]; rfl
  · have h' : ∀ i,i<n→p i=false:=fun i hi=>by
      cases hp:p i with
      | false=>rfl
      | true=>exact absurd ⟨i,hi,hp⟩ h
    exact .inr ⟨h',walk F hn (fun k f hk=>by rw [hs k f hk,h' k hk]; rfl) he⟩
theorem Zk9 {i:Nat} (h:i<9223372036854775807):IntKind.wrap .i64 ((i:Int)+1)=((i+1:Nat):Int):=by rw [Zr (by omega) (by omega)]; omega
theorem br_c {β:Type} (c:Bool) (a b:Option β):br c a b=bif c then a else b:=rfl
def KeyOk (k:List Int):Prop:=Byt k∧k.length=32
def Zwh (l:Zp):Prop:=KeyOk l.gKey∧Byt l.gSig∧l.gSig.length=64
def Zqh (xs:List Zp):Prop:=∀ l∈xs,Zwh l
theorem Zok {n:Nat} {a b:List Int} (ha:a.length=n) (hb:b.length=n):ieq n a b=decide (a=b):=by
  unfold ieq
  rw [show tk a 0 n=a by rw [← ha]; exact Zd6 rfl,show tk b 0 n=b by rw [← hb]; exact Zd6 rfl]
theorem Zut {xs:List Zp} (h:Zqh xs) {i:Nat} (hi:i<xs.length):Zwh (xs.getD i Z38):=by
  rw [List.getD_eq_getElem?_getD,List.getElem?_eq_getElem hi]
  exact h _ (List.getElem_mem hi)
theorem Zbw {α:Type} {z:α} {xs:List α} {i:Nat} (h:i<xs.length):xs.getD i z=xs[i]:=by rw [List.getD_eq_getElem?_getD,List.getElem?_eq_getElem h]; rfl
def Ztg (ks:List (List Int)):Prop:=∀ k∈ks,KeyOk k
theorem Z05j {ks:List (List Int)} {k:List Int} (h:Ztg ks) (hk:KeyOk k):Ztg (ks ++ [k]):=by
  intro x hx
  rcases List.mem_append.1 hx with h1 | h1
  · exact h x h1
  · rw [List.mem_singleton.1 h1]; exact hk
theorem kget {ks:List (List Int)} (h:Ztg ks) {i:Nat} (hi:i<ks.length):KeyOk (ks.getD i (List.replicate 32 0)):=by
  rw [Zbw hi]; exact h _ (List.getElem_mem hi)
theorem Zor {ks:List (List Int)} {k z:List Int}:k∈ks ↔ ∃ i,i<ks.length∧k=ks.getD i z:=by
  rw [List.mem_iff_getElem]
  exact ⟨fun ⟨i,hi,e⟩=>⟨i,hi,by rw [Zbw hi,e]⟩,fun ⟨i,hi,e⟩=>⟨i,hi,by rw [e,Zbw hi]⟩⟩
theorem Z072 {ks:List (List Int)} {k:List Int} (h:Ztg ks) (hk:KeyOk k) (hn:ks.length<9223372036854775807):Z0f ks k=some (decide (k∈ks)):=by
  rw [Z0f,Z20,Z2f]
  rcases Z024 (fun f i=>Zt ks k (fun (_:Unit)=>some (-1)) f (i:Int)) (n:=ks.length) (p:=fun i=>decide (k=ks.getD i (List.replicate 32 0))) (R:=fun i=>some (i:Int)) (E:=some (-1)) (by omega)
    (fun i f hi=>by
      show Z04 ks k _ (Zt ks k _ f) _=_
      rw [Z04,Z21 (decide_eq_true (by omega)),Z05 (Z2j (by omega) (by omega)),Ze,Int.toNat_natCast,Zok hk.2 (kget h hi).2,Ze,Zk9 (by omega),br_c])
    (fun f=>by
      show Z04 ks k _ _ _=_
      rw [Z04,Z1h (decide_eq_false (by omega))]) with ⟨i,h1,h2,h3,h4⟩ | ⟨h1,h2⟩
  · have h4':Zt ks k (fun (_:Unit)=>some (-1)) big 0=some (i:Int):=h4
    rw [h4',Z3 rfl]
    have hm:k∈ks:=Zor.2 ⟨i,h1,of_decide_eq_true h2⟩
    simp [hm]
  · have h2':Zt ks k (fun (_:Unit)=>some (-1)) big 0=some (-1):=h2
    rw [h2',Z3 rfl]
    have hm:k∉ks:=fun hc=>by
      obtain ⟨i,hi,e⟩:=(Zor (z:=List.replicate 32 0)).1 hc
      exact absurd e (of_decide_eq_false (h1 i hi))
    simp [hm]
def fol (V:List Int→Zp→Bool):List Int→List (List Int)→List Zp→List (List Int)×Int
  | _,ks,[]=>(ks,0)
  | ah,ks,l::r=>bif (l.gEpoch != (ks.length:Int))||decide (l.gKey∈ks) then ([],171) else bif !(V ah l) then ([],110) else fol V l.gKey (ks ++ [l.gKey]) r
def vf (k:List Int) (l:Zp):Bool:=(Z28 k (Zgp l) l.gSig).getD false
def Zog (root:List Int) (ls:List Zp):List (List Int)×Int:=bif decide ((ls.length:Int)>64) then ([],1) else fol vf root [root] ls
theorem pver {k:List Int} {l:Zp} (hk:KeyOk k) (hl:Zwh l):Z28 k (Zgp l) l.gSig=some (vf k l):=by
  obtain ⟨b,hb⟩:=Zng (m:=Zgp l) hk.1 (by have:=Zg0 l; omega) hl.2.1
  unfold vf
  rw [hb]; rfl
theorem Zlw {ls:List Zp} (hl:Zqh ls) (hn:ls.length≤64) : ∀ (d i f:Nat) (ah:List Int) (ks:List (List Int)),i+d=ls.length→KeyOk ah→Ztg ks→ks.length=i+1 →
    Z30 ls (f+1+d) (i:Int) ah ks=some (fol vf ah ks (ls.drop i))
  | 0,i,f,ah,ks,hi,ha,hk,hkl=>by
    show Z2z ls _ _ ah ks=_
    rw [Z2z,Z1h (decide_eq_false (by omega)),List.drop_eq_nil_of_le (by omega)]
    rfl
  | d+1,i,f,ah,ks,hi,ha,hk,hkl=>by
    show Z2z ls (Z30 ls (f+1+d)) _ ah ks=_
    have hlt:i<ls.length:=by omega
    have hx:=Zut hl hlt
    have hd:ls.drop i=ls.getD i Z38::ls.drop (i+1):=by rw [Zbw hlt]; exact List.drop_eq_getElem_cons hlt
    rw [Z2z,Z21 (decide_eq_true (by omega)),Z05 (Z2j (by omega) (by omega)),Ze,Int.toNat_natCast,hd,Z072 hk hx.1 (by omega),Z05 (by simp [imp])]
    show br ((((ls.getD i Z38).gEpoch != (ks.length:Int))||decide ((ls.getD i Z38).gKey∈ks))) _ _=_
    unfold fol
    cases hc:((ls.getD i Z38).gEpoch != (ks.length:Int))||decide ((ls.getD i Z38).gKey∈ks)
    · rw [Z1h rfl,Z3 (psay _)]
      dsimp only
      rw [Z3 (pver ha hx),cond_false]
      cases hv:vf ah (ls.getD i Z38)
      · rfl
      · rw [Z1h (by rfl),Z05 (by simp; omega),Ze,Ze,Zk9 (by omega)]
        exact Zlw hl hn d (i+1) f _ _ (by omega) hx.1 (Z05j hk hx.1) (by simp [hkl])
    · rfl
theorem Zi4 {root:List Int} {ls:List Zp} (hr:KeyOk root) (hl:Zqh ls):Z3v root ls=some (Zog root ls):=by
  rw [Z3v]
  unfold Zog
  cases hc:decide ((ls.length:Int)>64)
  · have hc':=of_decide_eq_false hc
    obtain ⟨f,hf⟩ : ∃ f,big=f+1+ls.length:=⟨18446744073709551615-ls.length,by have:big=18446744073709551616:=Z47; omega⟩
    rw [Z1h rfl,hf]
    exact Zlw hl (by omega) ls.length 0 f root [root] (by omega) hr (fun k hk=>by rw [List.mem_singleton.1 hk]; exact hr) rfl
  · rfl
theorem Zsj:Z08=some true:=by
  have hk5:KeyOk [5,0,0,0,0,0,0,0,0,0,0,0,0,0,0,0,0,0,0,0,0,0,0,0,0,0,0,0,0,0,0,0]:=⟨byt_of (by decide),rfl⟩
  rw [Z08,Ze,Z3 (Zi4 (ls:=[]) hk5 (fun l hl=>by cases hl)),Ze,Ze]
  have e1:Zog [5,0,0,0,0,0,0,0,0,0,0,0,0,0,0,0,0,0,0,0,0,0,0,0,0,0,0,0,0,0,0,0] []=([[5,0,0,0,0,0,0,0,0,0,0,0,0,0,0,0,0,0,0,0,0,0,0,0,0,0,0,0,0,0,0,0]],0):=rfl
  obtain ⟨_,_,_,_,e2⟩:=Zy4 [1,0,0,0,0,0,0,0,0,0,0,0,0,0,0,0,0,0,0,0,0,0,0,0,0,0,0,0,0,0,0,0] [6,0,0,0,0,0,0,0,0,0,0,0,0,0,0,0,0,0,0,0,0,0,0,0,0,0,0,0,0,0,0,0] 1
  rw [if_pos (by decide)] at e2
  rw [Z3 e2,Z2f,e1,Z05 (by rfl),Z21 (by rfl),Z3 (psay _)]
  rfl
end Go.Proofs.YtiflckckekjbnaaDoor
