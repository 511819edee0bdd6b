/- The field: numbers told by bytes. -/
import Derived.Test.YtiflckckekjbnaaDoorF5
namespace Go.Proofs.YtiflckckekjbnaaDoor
open Go Go.Sx Go.RowKit
set_option linter.all false
set_option maxRecDepth 100000
set_option maxHeartbeats 1000000
theorem or_add' (k : Nat) {x y a : Int} (hx : x = a * ((2 ^ k : Nat) : Int)) (ha : 0 ≤ a) (h0 : 0 ≤ y) (hy : y < ((2 ^ k : Nat) : Int)) (h1 : y + x < 18446744073709551616) : bitsV .or .u64 y x = y + x := by
  have hp : (0 : Int) ≤ ((2 ^ k : Nat) : Int) := Int.natCast_nonneg _
  have hx0 : 0 ≤ x := by rw [hx]; exact Int.mul_nonneg ha hp
  have := or_add k hx ha h0 hy (by omega)
  rw [or64 y.toNat x.toNat (by omega) (by omega) (by omega) (by omega)]
  rw [or64 x.toNat y.toNat (by omega) (by omega) (by omega) (by omega)] at this
  rw [Nat.or_comm, this, Int.add_comm]
def byt (n : Int) : List Int := [n % 256, n / 256 % 256, n / 65536 % 256, n / 16777216 % 256, n / 4294967296 % 256, n / 1099511627776 % 256, n / 281474976710656 % 256, n / 72057594037927936 % 256, n / 18446744073709551616 % 256, n / 4722366482869645213696 % 256, n / 1208925819614629174706176 % 256, n / 309485009821345068724781056 % 256, n / 79228162514264337593543950336 % 256, n / 20282409603651670423947251286016 % 256, n / 5192296858534827628530496329220096 % 256, n / 1329227995784915872903807060280344576 % 256, n / 340282366920938463463374607431768211456 % 256, n / 87112285931760246646623899502532662132736 % 256, n / 22300745198530623141535718272648361505980416 % 256, n / 5708990770823839524233143877797980545530986496 % 256, n / 1461501637330902918203684832716283019655932542976 % 256, n / 374144419156711147060143317175368453031918731001856 % 256, n / 95780971304118053647396689196894323976171195136475136 % 256, n / 24519928653854221733733552434404946937899825954937634816 % 256, n / 6277101735386680763835789423207666416102355444464034512896 % 256, n / 1606938044258990275541962092341162602522202993782792835301376 % 256, n / 411376139330301510538742295639337626245683966408394965837152256 % 256, n / 105312291668557186697918027683670432318895095400549111254310977536 % 256, n / 26959946667150639794667015087019630673637144422540572481103610249216 % 256, n / 6901746346790563787434755862277025452451108972170386555162524223799296 % 256, n / 1766847064778384329583297500742918515827483896875618958121606201292619776 % 256, n / 452312848583266388373324160190187140051835877600158453279131187530910662656 % 256]
theorem bytes_run (k : List Int → Option (List Int)) (y0 y1 y2 y3 y4 : Int) : field_Bytes_l1 [y0, y1, y2, y3, y4] k big 0 (List.replicate 32 0) = k [IntKind.wrap .u8 (shrV .u64 y0 0), IntKind.wrap .u8 (shrV .u64 y0 8), IntKind.wrap .u8 (shrV .u64 y0 16), IntKind.wrap .u8 (shrV .u64 y0 24), IntKind.wrap .u8 (shrV .u64 y0 32), IntKind.wrap .u8 (shrV .u64 y0 40), IntKind.wrap .u8 (bitsV .or .u64 (shrV .u64 y0 48) (shlV .u64 y1 3)), IntKind.wrap .u8 (shrV .u64 y1 5), IntKind.wrap .u8 (shrV .u64 y1 13), IntKind.wrap .u8 (shrV .u64 y1 21), IntKind.wrap .u8 (shrV .u64 y1 29), IntKind.wrap .u8 (shrV .u64 y1 37), IntKind.wrap .u8 (bitsV .or .u64 (shrV .u64 y1 45) (shlV .u64 y2 6)), IntKind.wrap .u8 (shrV .u64 y2 2), IntKind.wrap .u8 (shrV .u64 y2 10), IntKind.wrap .u8 (shrV .u64 y2 18), IntKind.wrap .u8 (shrV .u64 y2 26), IntKind.wrap .u8 (shrV .u64 y2 34), IntKind.wrap .u8 (shrV .u64 y2 42), IntKind.wrap .u8 (bitsV .or .u64 (shrV .u64 y2 50) (shlV .u64 y3 1)), IntKind.wrap .u8 (shrV .u64 y3 7), IntKind.wrap .u8 (shrV .u64 y3 15), IntKind.wrap .u8 (shrV .u64 y3 23), IntKind.wrap .u8 (shrV .u64 y3 31), IntKind.wrap .u8 (shrV .u64 y3 39), IntKind.wrap .u8 (bitsV .or .u64 (shrV .u64 y3 47) (shlV .u64 y4 4)), IntKind.wrap .u8 (shrV .u64 y4 4), IntKind.wrap .u8 (shrV .u64 y4 12), IntKind.wrap .u8 (shrV .u64 y4 20), IntKind.wrap .u8 (shrV .u64 y4 28), IntKind.wrap .u8 (shrV .u64 y4 36), IntKind.wrap .u8 (shrV .u64 y4 44)] := by kernel_rfl
theorem shr_lit (x : Int) (n : Nat) (h : n ≤ 64) : shrV .u64 x (n : Int) = x / ((2 ^ n : Nat) : Int) := shr_eq .u64 h
theorem byte_0 {n : Int} (h0 : 0 ≤ n) : IntKind.wrap .u8 (shrV .u64 (n % 2251799813685248) 0) = n % 256 := by
  have := shr_lit (n % 2251799813685248) 0 (by decide)
  rw [show ((2 ^ 0 : Nat) : Int) = 1 from rfl] at this
  refine (congrArg _ this).trans ?_
  rw [wu8_eq]
  omega
theorem byte_1 {n : Int} (h0 : 0 ≤ n) : IntKind.wrap .u8 (shrV .u64 (n % 2251799813685248) 8) = n / 256 % 256 := by
  have := shr_lit (n % 2251799813685248) 8 (by decide)
  rw [show ((2 ^ 8 : Nat) : Int) = 256 from rfl] at this
  refine (congrArg _ this).trans ?_
  rw [wu8_eq]
  omega
theorem byte_2 {n : Int} (h0 : 0 ≤ n) : IntKind.wrap .u8 (shrV .u64 (n % 2251799813685248) 16) = n / 65536 % 256 := by
  have := shr_lit (n % 2251799813685248) 16 (by decide)
  rw [show ((2 ^ 16 : Nat) : Int) = 65536 from rfl] at this
  refine (congrArg _ this).trans ?_
  rw [wu8_eq]
  omega
theorem byte_3 {n : Int} (h0 : 0 ≤ n) : IntKind.wrap .u8 (shrV .u64 (n % 2251799813685248) 24) = n / 16777216 % 256 := by
  have := shr_lit (n % 2251799813685248) 24 (by decide)
  rw [show ((2 ^ 24 : Nat) : Int) = 16777216 from rfl] at this
  refine (congrArg _ this).trans ?_
  rw [wu8_eq]
  omega
theorem byte_4 {n : Int} (h0 : 0 ≤ n) : IntKind.wrap .u8 (shrV .u64 (n % 2251799813685248) 32) = n / 4294967296 % 256 := by
  have := shr_lit (n % 2251799813685248) 32 (by decide)
  rw [show ((2 ^ 32 : Nat) : Int) = 4294967296 from rfl] at this
  refine (congrArg _ this).trans ?_
  rw [wu8_eq]
  omega
theorem byte_5 {n : Int} (h0 : 0 ≤ n) : IntKind.wrap .u8 (shrV .u64 (n % 2251799813685248) 40) = n / 1099511627776 % 256 := by
  have := shr_lit (n % 2251799813685248) 40 (by decide)
  rw [show ((2 ^ 40 : Nat) : Int) = 1099511627776 from rfl] at this
  refine (congrArg _ this).trans ?_
  rw [wu8_eq]
  omega
theorem byte_6 {n : Int} (h0 : 0 ≤ n) : IntKind.wrap .u8 (bitsV .or .u64 (shrV .u64 (n % 2251799813685248) 48) (shlV .u64 (n / 2251799813685248 % 2251799813685248) 3)) = n / 281474976710656 % 256 := by
  have e1 : shrV .u64 (n % 2251799813685248) 48 = n / 281474976710656 % 8 := by
    have := shr_lit (n % 2251799813685248) 48 (by decide)
    rw [show ((2 ^ 48 : Nat) : Int) = 281474976710656 from rfl] at this
    refine this.trans ?_
    omega
  have e2 : shlV .u64 (n / 2251799813685248 % 2251799813685248) 3 = (n / 2251799813685248 % 2251799813685248) * 8 := by
    have := shl_eq .u64 (x := n / 2251799813685248 % 2251799813685248) (n := 3) (by decide)
    rw [show ((2 ^ 3 : Nat) : Int) = 8 from rfl] at this
    refine this.trans (wu64_small (by omega) (by omega))
  rw [e1, e2, or_add' 3 (x := (n / 2251799813685248 % 2251799813685248) * 8) (y := n / 281474976710656 % 8) (a := n / 2251799813685248 % 2251799813685248) rfl (by omega) (by omega) (by show _ < (8 : Int); omega) (by omega), wu8_eq]
  omega
theorem byte_7 {n : Int} (h0 : 0 ≤ n) : IntKind.wrap .u8 (shrV .u64 (n / 2251799813685248 % 2251799813685248) 5) = n / 72057594037927936 % 256 := by
  have := shr_lit (n / 2251799813685248 % 2251799813685248) 5 (by decide)
  rw [show ((2 ^ 5 : Nat) : Int) = 32 from rfl] at this
  refine (congrArg _ this).trans ?_
  rw [wu8_eq]
  omega
theorem byte_8 {n : Int} (h0 : 0 ≤ n) : IntKind.wrap .u8 (shrV .u64 (n / 2251799813685248 % 2251799813685248) 13) = n / 18446744073709551616 % 256 := by
  have := shr_lit (n / 2251799813685248 % 2251799813685248) 13 (by decide)
  rw [show ((2 ^ 13 : Nat) : Int) = 8192 from rfl] at this
  refine (congrArg _ this).trans ?_
  rw [wu8_eq]
  omega
theorem byte_9 {n : Int} (h0 : 0 ≤ n) : IntKind.wrap .u8 (shrV .u64 (n / 2251799813685248 % 2251799813685248) 21) = n / 4722366482869645213696 % 256 := by
  have := shr_lit (n / 2251799813685248 % 2251799813685248) 21 (by decide)
  rw [show ((2 ^ 21 : Nat) : Int) = 2097152 from rfl] at this
  refine (congrArg _ this).trans ?_
  rw [wu8_eq]
  omega
theorem byte_10 {n : Int} (h0 : 0 ≤ n) : IntKind.wrap .u8 (shrV .u64 (n / 2251799813685248 % 2251799813685248) 29) = n / 1208925819614629174706176 % 256 := by
  have := shr_lit (n / 2251799813685248 % 2251799813685248) 29 (by decide)
  rw [show ((2 ^ 29 : Nat) : Int) = 536870912 from rfl] at this
  refine (congrArg _ this).trans ?_
  rw [wu8_eq]
  omega
theorem byte_11 {n : Int} (h0 : 0 ≤ n) : IntKind.wrap .u8 (shrV .u64 (n / 2251799813685248 % 2251799813685248) 37) = n / 309485009821345068724781056 % 256 := by
  have := shr_lit (n / 2251799813685248 % 2251799813685248) 37 (by decide)
  rw [show ((2 ^ 37 : Nat) : Int) = 137438953472 from rfl] at this
  refine (congrArg _ this).trans ?_
  rw [wu8_eq]
  omega
theorem byte_12 {n : Int} (h0 : 0 ≤ n) : IntKind.wrap .u8 (bitsV .or .u64 (shrV .u64 (n / 2251799813685248 % 2251799813685248) 45) (shlV .u64 (n / 5070602400912917605986812821504 % 2251799813685248) 6)) = n / 79228162514264337593543950336 % 256 := by
  have e1 : shrV .u64 (n / 2251799813685248 % 2251799813685248) 45 = n / 79228162514264337593543950336 % 64 := by
    have := shr_lit (n / 2251799813685248 % 2251799813685248) 45 (by decide)
    rw [show ((2 ^ 45 : Nat) : Int) = 35184372088832 from rfl] at this
    refine this.trans ?_
    omega
  have e2 : shlV .u64 (n / 5070602400912917605986812821504 % 2251799813685248) 6 = (n / 5070602400912917605986812821504 % 2251799813685248) * 64 := by
    have := shl_eq .u64 (x := n / 5070602400912917605986812821504 % 2251799813685248) (n := 6) (by decide)
    rw [show ((2 ^ 6 : Nat) : Int) = 64 from rfl] at this
    refine this.trans (wu64_small (by omega) (by omega))
  rw [e1, e2, or_add' 6 (x := (n / 5070602400912917605986812821504 % 2251799813685248) * 64) (y := n / 79228162514264337593543950336 % 64) (a := n / 5070602400912917605986812821504 % 2251799813685248) rfl (by omega) (by omega) (by show _ < (64 : Int); omega) (by omega), wu8_eq]
  omega
theorem byte_13 {n : Int} (h0 : 0 ≤ n) : IntKind.wrap .u8 (shrV .u64 (n / 5070602400912917605986812821504 % 2251799813685248) 2) = n / 20282409603651670423947251286016 % 256 := by
  have := shr_lit (n / 5070602400912917605986812821504 % 2251799813685248) 2 (by decide)
  rw [show ((2 ^ 2 : Nat) : Int) = 4 from rfl] at this
  refine (congrArg _ this).trans ?_
  rw [wu8_eq]
  omega
theorem byte_14 {n : Int} (h0 : 0 ≤ n) : IntKind.wrap .u8 (shrV .u64 (n / 5070602400912917605986812821504 % 2251799813685248) 10) = n / 5192296858534827628530496329220096 % 256 := by
  have := shr_lit (n / 5070602400912917605986812821504 % 2251799813685248) 10 (by decide)
  rw [show ((2 ^ 10 : Nat) : Int) = 1024 from rfl] at this
  refine (congrArg _ this).trans ?_
  rw [wu8_eq]
  omega
theorem byte_15 {n : Int} (h0 : 0 ≤ n) : IntKind.wrap .u8 (shrV .u64 (n / 5070602400912917605986812821504 % 2251799813685248) 18) = n / 1329227995784915872903807060280344576 % 256 := by
  have := shr_lit (n / 5070602400912917605986812821504 % 2251799813685248) 18 (by decide)
  rw [show ((2 ^ 18 : Nat) : Int) = 262144 from rfl] at this
  refine (congrArg _ this).trans ?_
  rw [wu8_eq]
  omega
theorem byte_16 {n : Int} (h0 : 0 ≤ n) : IntKind.wrap .u8 (shrV .u64 (n / 5070602400912917605986812821504 % 2251799813685248) 26) = n / 340282366920938463463374607431768211456 % 256 := by
  have := shr_lit (n / 5070602400912917605986812821504 % 2251799813685248) 26 (by decide)
  rw [show ((2 ^ 26 : Nat) : Int) = 67108864 from rfl] at this
  refine (congrArg _ this).trans ?_
  rw [wu8_eq]
  omega
theorem byte_17 {n : Int} (h0 : 0 ≤ n) : IntKind.wrap .u8 (shrV .u64 (n / 5070602400912917605986812821504 % 2251799813685248) 34) = n / 87112285931760246646623899502532662132736 % 256 := by
  have := shr_lit (n / 5070602400912917605986812821504 % 2251799813685248) 34 (by decide)
  rw [show ((2 ^ 34 : Nat) : Int) = 17179869184 from rfl] at this
  refine (congrArg _ this).trans ?_
  rw [wu8_eq]
  omega
theorem byte_18 {n : Int} (h0 : 0 ≤ n) : IntKind.wrap .u8 (shrV .u64 (n / 5070602400912917605986812821504 % 2251799813685248) 42) = n / 22300745198530623141535718272648361505980416 % 256 := by
  have := shr_lit (n / 5070602400912917605986812821504 % 2251799813685248) 42 (by decide)
  rw [show ((2 ^ 42 : Nat) : Int) = 4398046511104 from rfl] at this
  refine (congrArg _ this).trans ?_
  rw [wu8_eq]
  omega
theorem byte_19 {n : Int} (h0 : 0 ≤ n) : IntKind.wrap .u8 (bitsV .or .u64 (shrV .u64 (n / 5070602400912917605986812821504 % 2251799813685248) 50) (shlV .u64 (n / 11417981541647679048466287755595961091061972992 % 2251799813685248) 1)) = n / 5708990770823839524233143877797980545530986496 % 256 := by
  have e1 : shrV .u64 (n / 5070602400912917605986812821504 % 2251799813685248) 50 = n / 5708990770823839524233143877797980545530986496 % 2 := by
    have := shr_lit (n / 5070602400912917605986812821504 % 2251799813685248) 50 (by decide)
    rw [show ((2 ^ 50 : Nat) : Int) = 1125899906842624 from rfl] at this
    refine this.trans ?_
    omega
  have e2 : shlV .u64 (n / 11417981541647679048466287755595961091061972992 % 2251799813685248) 1 = (n / 11417981541647679048466287755595961091061972992 % 2251799813685248) * 2 := by
    have := shl_eq .u64 (x := n / 11417981541647679048466287755595961091061972992 % 2251799813685248) (n := 1) (by decide)
    rw [show ((2 ^ 1 : Nat) : Int) = 2 from rfl] at this
    refine this.trans (wu64_small (by omega) (by omega))
  rw [e1, e2, or_add' 1 (x := (n / 11417981541647679048466287755595961091061972992 % 2251799813685248) * 2) (y := n / 5708990770823839524233143877797980545530986496 % 2) (a := n / 11417981541647679048466287755595961091061972992 % 2251799813685248) rfl (by omega) (by omega) (by show _ < (2 : Int); omega) (by omega), wu8_eq]
  omega
theorem byte_20 {n : Int} (h0 : 0 ≤ n) : IntKind.wrap .u8 (shrV .u64 (n / 11417981541647679048466287755595961091061972992 % 2251799813685248) 7) = n / 1461501637330902918203684832716283019655932542976 % 256 := by
  have := shr_lit (n / 11417981541647679048466287755595961091061972992 % 2251799813685248) 7 (by decide)
  rw [show ((2 ^ 7 : Nat) : Int) = 128 from rfl] at this
  refine (congrArg _ this).trans ?_
  rw [wu8_eq]
  omega
theorem byte_21 {n : Int} (h0 : 0 ≤ n) : IntKind.wrap .u8 (shrV .u64 (n / 11417981541647679048466287755595961091061972992 % 2251799813685248) 15) = n / 374144419156711147060143317175368453031918731001856 % 256 := by
  have := shr_lit (n / 11417981541647679048466287755595961091061972992 % 2251799813685248) 15 (by decide)
  rw [show ((2 ^ 15 : Nat) : Int) = 32768 from rfl] at this
  refine (congrArg _ this).trans ?_
  rw [wu8_eq]
  omega
theorem byte_22 {n : Int} (h0 : 0 ≤ n) : IntKind.wrap .u8 (shrV .u64 (n / 11417981541647679048466287755595961091061972992 % 2251799813685248) 23) = n / 95780971304118053647396689196894323976171195136475136 % 256 := by
  have := shr_lit (n / 11417981541647679048466287755595961091061972992 % 2251799813685248) 23 (by decide)
  rw [show ((2 ^ 23 : Nat) : Int) = 8388608 from rfl] at this
  refine (congrArg _ this).trans ?_
  rw [wu8_eq]
  omega
theorem byte_23 {n : Int} (h0 : 0 ≤ n) : IntKind.wrap .u8 (shrV .u64 (n / 11417981541647679048466287755595961091061972992 % 2251799813685248) 31) = n / 24519928653854221733733552434404946937899825954937634816 % 256 := by
  have := shr_lit (n / 11417981541647679048466287755595961091061972992 % 2251799813685248) 31 (by decide)
  rw [show ((2 ^ 31 : Nat) : Int) = 2147483648 from rfl] at this
  refine (congrArg _ this).trans ?_
  rw [wu8_eq]
  omega
theorem byte_24 {n : Int} (h0 : 0 ≤ n) : IntKind.wrap .u8 (shrV .u64 (n / 11417981541647679048466287755595961091061972992 % 2251799813685248) 39) = n / 6277101735386680763835789423207666416102355444464034512896 % 256 := by
  have := shr_lit (n / 11417981541647679048466287755595961091061972992 % 2251799813685248) 39 (by decide)
  rw [show ((2 ^ 39 : Nat) : Int) = 549755813888 from rfl] at this
  refine (congrArg _ this).trans ?_
  rw [wu8_eq]
  omega
theorem byte_25 {n : Int} (h0 : 0 ≤ n) : IntKind.wrap .u8 (bitsV .or .u64 (shrV .u64 (n / 11417981541647679048466287755595961091061972992 % 2251799813685248) 47) (shlV .u64 (n / 25711008708143844408671393477458601640355247900524685364822016 % 2251799813685248) 4)) = n / 1606938044258990275541962092341162602522202993782792835301376 % 256 := by
  have e1 : shrV .u64 (n / 11417981541647679048466287755595961091061972992 % 2251799813685248) 47 = n / 1606938044258990275541962092341162602522202993782792835301376 % 16 := by
    have := shr_lit (n / 11417981541647679048466287755595961091061972992 % 2251799813685248) 47 (by decide)
    rw [show ((2 ^ 47 : Nat) : Int) = 140737488355328 from rfl] at this
    refine this.trans ?_
    omega
  have e2 : shlV .u64 (n / 25711008708143844408671393477458601640355247900524685364822016 % 2251799813685248) 4 = (n / 25711008708143844408671393477458601640355247900524685364822016 % 2251799813685248) * 16 := by
    have := shl_eq .u64 (x := n / 25711008708143844408671393477458601640355247900524685364822016 % 2251799813685248) (n := 4) (by decide)
    rw [show ((2 ^ 4 : Nat) : Int) = 16 from rfl] at this
    refine this.trans (wu64_small (by omega) (by omega))
  rw [e1, e2, or_add' 4 (x := (n / 25711008708143844408671393477458601640355247900524685364822016 % 2251799813685248) * 16) (y := n / 1606938044258990275541962092341162602522202993782792835301376 % 16) (a := n / 25711008708143844408671393477458601640355247900524685364822016 % 2251799813685248) rfl (by omega) (by omega) (by show _ < (16 : Int); omega) (by omega), wu8_eq]
  omega
theorem byte_26 {n : Int} (h0 : 0 ≤ n) (h1 : n < 57896044618658097711785492504343953926634992332820282019728792003956564819949) : IntKind.wrap .u8 (shrV .u64 (n / 25711008708143844408671393477458601640355247900524685364822016 % 2251799813685248) 4) = n / 411376139330301510538742295639337626245683966408394965837152256 % 256 := by
  have := shr_lit (n / 25711008708143844408671393477458601640355247900524685364822016 % 2251799813685248) 4 (by decide)
  rw [show ((2 ^ 4 : Nat) : Int) = 16 from rfl] at this
  refine (congrArg _ this).trans ?_
  rw [wu8_eq]
  omega
theorem byte_27 {n : Int} (h0 : 0 ≤ n) (h1 : n < 57896044618658097711785492504343953926634992332820282019728792003956564819949) : IntKind.wrap .u8 (shrV .u64 (n / 25711008708143844408671393477458601640355247900524685364822016 % 2251799813685248) 12) = n / 105312291668557186697918027683670432318895095400549111254310977536 % 256 := by
  have := shr_lit (n / 25711008708143844408671393477458601640355247900524685364822016 % 2251799813685248) 12 (by decide)
  rw [show ((2 ^ 12 : Nat) : Int) = 4096 from rfl] at this
  refine (congrArg _ this).trans ?_
  rw [wu8_eq]
  omega
theorem byte_28 {n : Int} (h0 : 0 ≤ n) (h1 : n < 57896044618658097711785492504343953926634992332820282019728792003956564819949) : IntKind.wrap .u8 (shrV .u64 (n / 25711008708143844408671393477458601640355247900524685364822016 % 2251799813685248) 20) = n / 26959946667150639794667015087019630673637144422540572481103610249216 % 256 := by
  have := shr_lit (n / 25711008708143844408671393477458601640355247900524685364822016 % 2251799813685248) 20 (by decide)
  rw [show ((2 ^ 20 : Nat) : Int) = 1048576 from rfl] at this
  refine (congrArg _ this).trans ?_
  rw [wu8_eq]
  omega
theorem byte_29 {n : Int} (h0 : 0 ≤ n) (h1 : n < 57896044618658097711785492504343953926634992332820282019728792003956564819949) : IntKind.wrap .u8 (shrV .u64 (n / 25711008708143844408671393477458601640355247900524685364822016 % 2251799813685248) 28) = n / 6901746346790563787434755862277025452451108972170386555162524223799296 % 256 := by
  have := shr_lit (n / 25711008708143844408671393477458601640355247900524685364822016 % 2251799813685248) 28 (by decide)
  rw [show ((2 ^ 28 : Nat) : Int) = 268435456 from rfl] at this
  refine (congrArg _ this).trans ?_
  rw [wu8_eq]
  omega
theorem byte_30 {n : Int} (h0 : 0 ≤ n) (h1 : n < 57896044618658097711785492504343953926634992332820282019728792003956564819949) : IntKind.wrap .u8 (shrV .u64 (n / 25711008708143844408671393477458601640355247900524685364822016 % 2251799813685248) 36) = n / 1766847064778384329583297500742918515827483896875618958121606201292619776 % 256 := by
  have := shr_lit (n / 25711008708143844408671393477458601640355247900524685364822016 % 2251799813685248) 36 (by decide)
  rw [show ((2 ^ 36 : Nat) : Int) = 68719476736 from rfl] at this
  refine (congrArg _ this).trans ?_
  rw [wu8_eq]
  omega
theorem byte_31 {n : Int} (h0 : 0 ≤ n) (h1 : n < 57896044618658097711785492504343953926634992332820282019728792003956564819949) : IntKind.wrap .u8 (shrV .u64 (n / 25711008708143844408671393477458601640355247900524685364822016 % 2251799813685248) 44) = n / 452312848583266388373324160190187140051835877600158453279131187530910662656 % 256 := by
  have := shr_lit (n / 25711008708143844408671393477458601640355247900524685364822016 % 2251799813685248) 44 (by decide)
  rw [show ((2 ^ 44 : Nat) : Int) = 17592186044416 from rfl] at this
  refine (congrArg _ this).trans ?_
  rw [wu8_eq]
  omega
theorem bytes_eq {x : List Int} (hx : U5 x) : field_Bytes x = some (byt (fval x % PP)) := by
  rw [field_Bytes, opt_some (reduce_eq hx), jn_eq]
  have h0 : 0 ≤ fval x % PP := Int.emod_nonneg _ (by decide)
  have h1 : fval x % PP < PP := Int.emod_lt_of_pos _ PP_pos
  unfold fred
  generalize fval x % PP = n at *
  have e : fdig n = [n % 2251799813685248, n / 2251799813685248 % 2251799813685248, n / 5070602400912917605986812821504 % 2251799813685248, n / 11417981541647679048466287755595961091061972992 % 2251799813685248, n / 25711008708143844408671393477458601640355247900524685364822016 % 2251799813685248] := rfl
  rw [e, bytes_run, byte_0 h0, byte_1 h0, byte_2 h0, byte_3 h0, byte_4 h0, byte_5 h0, byte_6 h0, byte_7 h0, byte_8 h0, byte_9 h0, byte_10 h0, byte_11 h0, byte_12 h0, byte_13 h0, byte_14 h0, byte_15 h0, byte_16 h0, byte_17 h0, byte_18 h0, byte_19 h0, byte_20 h0, byte_21 h0, byte_22 h0, byte_23 h0, byte_24 h0, byte_25 h0, byte_26 h0 h1, byte_27 h0 h1, byte_28 h0 h1, byte_29 h0 h1, byte_30 h0 h1, byte_31 h0 h1]
  rfl
theorem fb_run (k : List Int → Option (List Int)) (x : List Int) : field_FromBytes_l1 x k big 0 (List.replicate 5 0) = k [bitsV .or .u64 (bitsV .or .u64 (bitsV .or .u64 (bitsV .or .u64 (bitsV .or .u64 (bitsV .or .u64 (bitsV .or .u64 (0) (bitsV .and .u64 (shlV .u64 (IntKind.wrap .u64 (x.getD 0 0)) 0) 2251799813685247)) (bitsV .and .u64 (shlV .u64 (IntKind.wrap .u64 (x.getD 1 0)) 8) 2251799813685247)) (bitsV .and .u64 (shlV .u64 (IntKind.wrap .u64 (x.getD 2 0)) 16) 2251799813685247)) (bitsV .and .u64 (shlV .u64 (IntKind.wrap .u64 (x.getD 3 0)) 24) 2251799813685247)) (bitsV .and .u64 (shlV .u64 (IntKind.wrap .u64 (x.getD 4 0)) 32) 2251799813685247)) (bitsV .and .u64 (shlV .u64 (IntKind.wrap .u64 (x.getD 5 0)) 40) 2251799813685247)) (bitsV .and .u64 (shlV .u64 (IntKind.wrap .u64 (x.getD 6 0)) 48) 2251799813685247),
  bitsV .or .u64 (bitsV .or .u64 (bitsV .or .u64 (bitsV .or .u64 (bitsV .or .u64 (bitsV .or .u64 (bitsV .or .u64 (0) (shrV .u64 (IntKind.wrap .u64 (x.getD 6 0)) 3)) (bitsV .and .u64 (shlV .u64 (IntKind.wrap .u64 (x.getD 7 0)) 5) 2251799813685247)) (bitsV .and .u64 (shlV .u64 (IntKind.wrap .u64 (x.getD 8 0)) 13) 2251799813685247)) (bitsV .and .u64 (shlV .u64 (IntKind.wrap .u64 (x.getD 9 0)) 21) 2251799813685247)) (bitsV .and .u64 (shlV .u64 (IntKind.wrap .u64 (x.getD 10 0)) 29) 2251799813685247)) (bitsV .and .u64 (shlV .u64 (IntKind.wrap .u64 (x.getD 11 0)) 37) 2251799813685247)) (bitsV .and .u64 (shlV .u64 (IntKind.wrap .u64 (x.getD 12 0)) 45) 2251799813685247),
  bitsV .or .u64 (bitsV .or .u64 (bitsV .or .u64 (bitsV .or .u64 (bitsV .or .u64 (bitsV .or .u64 (bitsV .or .u64 (bitsV .or .u64 (0) (shrV .u64 (IntKind.wrap .u64 (x.getD 12 0)) 6)) (bitsV .and .u64 (shlV .u64 (IntKind.wrap .u64 (x.getD 13 0)) 2) 2251799813685247)) (bitsV .and .u64 (shlV .u64 (IntKind.wrap .u64 (x.getD 14 0)) 10) 2251799813685247)) (bitsV .and .u64 (shlV .u64 (IntKind.wrap .u64 (x.getD 15 0)) 18) 2251799813685247)) (bitsV .and .u64 (shlV .u64 (IntKind.wrap .u64 (x.getD 16 0)) 26) 2251799813685247)) (bitsV .and .u64 (shlV .u64 (IntKind.wrap .u64 (x.getD 17 0)) 34) 2251799813685247)) (bitsV .and .u64 (shlV .u64 (IntKind.wrap .u64 (x.getD 18 0)) 42) 2251799813685247)) (bitsV .and .u64 (shlV .u64 (IntKind.wrap .u64 (x.getD 19 0)) 50) 2251799813685247),
  bitsV .or .u64 (bitsV .or .u64 (bitsV .or .u64 (bitsV .or .u64 (bitsV .or .u64 (bitsV .or .u64 (bitsV .or .u64 (0) (shrV .u64 (IntKind.wrap .u64 (x.getD 19 0)) 1)) (bitsV .and .u64 (shlV .u64 (IntKind.wrap .u64 (x.getD 20 0)) 7) 2251799813685247)) (bitsV .and .u64 (shlV .u64 (IntKind.wrap .u64 (x.getD 21 0)) 15) 2251799813685247)) (bitsV .and .u64 (shlV .u64 (IntKind.wrap .u64 (x.getD 22 0)) 23) 2251799813685247)) (bitsV .and .u64 (shlV .u64 (IntKind.wrap .u64 (x.getD 23 0)) 31) 2251799813685247)) (bitsV .and .u64 (shlV .u64 (IntKind.wrap .u64 (x.getD 24 0)) 39) 2251799813685247)) (bitsV .and .u64 (shlV .u64 (IntKind.wrap .u64 (x.getD 25 0)) 47) 2251799813685247),
  bitsV .or .u64 (bitsV .or .u64 (bitsV .or .u64 (bitsV .or .u64 (bitsV .or .u64 (bitsV .or .u64 (bitsV .or .u64 (0) (shrV .u64 (IntKind.wrap .u64 (x.getD 25 0)) 4)) (bitsV .and .u64 (shlV .u64 (IntKind.wrap .u64 (x.getD 26 0)) 4) 2251799813685247)) (bitsV .and .u64 (shlV .u64 (IntKind.wrap .u64 (x.getD 27 0)) 12) 2251799813685247)) (bitsV .and .u64 (shlV .u64 (IntKind.wrap .u64 (x.getD 28 0)) 20) 2251799813685247)) (bitsV .and .u64 (shlV .u64 (IntKind.wrap .u64 (x.getD 29 0)) 28) 2251799813685247)) (bitsV .and .u64 (shlV .u64 (IntKind.wrap .u64 (x.getD 30 0)) 36) 2251799813685247)) (bitsV .and .u64 (shlV .u64 (IntKind.wrap .u64 (bitsV .and .u8 (x.getD 31 0) 127)) 44) 2251799813685247)] := by kernel_rfl
theorem piece_lo (k : Nat) {b : Int} (hk : k ≤ 51) (hb : 0 ≤ b ∧ b < 256) : bitsV .and .u64 (shlV .u64 (IntKind.wrap .u64 b) (k : Int)) 2251799813685247 = b % ((2 ^ (51 - k) : Nat) : Int) * ((2 ^ k : Nat) : Int) := by
  have hp : (0 : Int) < ((2 ^ k : Nat) : Int) := by have := Nat.pow_pos (n := k) (show 0 < 2 by decide); omega
  have hq : (0 : Int) < ((2 ^ (51 - k) : Nat) : Int) := by have := Nat.pow_pos (n := 51 - k) (show 0 < 2 by decide); omega
  have hle : ((2 ^ k : Nat) : Int) ≤ 2251799813685248 := by
    have := Nat.pow_le_pow_right (show 0 < 2 by decide) hk
    have e : (2 ^ 51 : Nat) = 2251799813685248 := by decide
    omega
  have hprod : ((2 ^ k : Nat) : Int) * ((2 ^ (51 - k) : Nat) : Int) = 2251799813685248 := by
    rw [← Int.natCast_mul, ← Nat.pow_add, show k + (51 - k) = 51 by omega]; rfl
  have hbk : b * ((2 ^ k : Nat) : Int) ≤ 256 * 2251799813685248 := Int.mul_le_mul (by omega) hle (by omega) (by omega)
  have hbk0 : 0 ≤ b * ((2 ^ k : Nat) : Int) := Int.mul_nonneg hb.1 (by omega)
  rw [wu64_small hb.1 (by omega), shl_eq .u64 (n := k) (by show k ≤ 64; omega), wu64_small hbk0 (by omega), and51 hbk0 (by omega)]
  rw [← hprod, Int.mul_comm b, Int.mul_emod_mul_of_pos _ _ hp, Int.mul_comm]
theorem piece_hi (k : Nat) {b : Int} (hk : k ≤ 64) (hb : 0 ≤ b ∧ b < 256) : shrV .u64 (IntKind.wrap .u64 b) (k : Int) = b / ((2 ^ k : Nat) : Int) := by
  rw [wu64_small hb.1 (by omega), shr_eq .u64 hk]
theorem limb_0 {b0 b1 b2 b3 b4 b5 b6 : Int} (h0 : 0 ≤ b0 ∧ b0 < 256) (h1 : 0 ≤ b1 ∧ b1 < 256) (h2 : 0 ≤ b2 ∧ b2 < 256) (h3 : 0 ≤ b3 ∧ b3 < 256) (h4 : 0 ≤ b4 ∧ b4 < 256) (h5 : 0 ≤ b5 ∧ b5 < 256) (h6 : 0 ≤ b6 ∧ b6 < 256) : bitsV .or .u64 (bitsV .or .u64 (bitsV .or .u64 (bitsV .or .u64 (bitsV .or .u64 (bitsV .or .u64 (bitsV .or .u64 (0) (bitsV .and .u64 (shlV .u64 (IntKind.wrap .u64 b0) 0) 2251799813685247)) (bitsV .and .u64 (shlV .u64 (IntKind.wrap .u64 b1) 8) 2251799813685247)) (bitsV .and .u64 (shlV .u64 (IntKind.wrap .u64 b2) 16) 2251799813685247)) (bitsV .and .u64 (shlV .u64 (IntKind.wrap .u64 b3) 24) 2251799813685247)) (bitsV .and .u64 (shlV .u64 (IntKind.wrap .u64 b4) 32) 2251799813685247)) (bitsV .and .u64 (shlV .u64 (IntKind.wrap .u64 b5) 40) 2251799813685247)) (bitsV .and .u64 (shlV .u64 (IntKind.wrap .u64 b6) 48) 2251799813685247) = 0 + b0 * 1 + b1 * 256 + b2 * 65536 + b3 * 16777216 + b4 * 4294967296 + b5 * 1099511627776 + b6 % 8 * 281474976710656 := by
  have p0 : bitsV .and .u64 (shlV .u64 (IntKind.wrap .u64 b0) 0) 2251799813685247 = b0 * 1 := by
    have := piece_lo 0 (by decide) h0
    refine this.trans ?_
    rw [show ((2 ^ (51 - 0) : Nat) : Int) = 2251799813685248 from rfl, show ((2 ^ 0 : Nat) : Int) = 1 from rfl]
    rw [Int.emod_eq_of_lt h0.1 (by omega)]
  rw [p0, or_add' 0 (x := b0 * 1) (y := 0) (a := b0) (by simp) (by omega) (by omega) (by show _ < (1 : Int); omega) (by omega)]
  have p1 : bitsV .and .u64 (shlV .u64 (IntKind.wrap .u64 b1) 8) 2251799813685247 = b1 * 256 := by
    have := piece_lo 8 (by decide) h1
    refine this.trans ?_
    rw [show ((2 ^ (51 - 8) : Nat) : Int) = 8796093022208 from rfl, show ((2 ^ 8 : Nat) : Int) = 256 from rfl]
    rw [Int.emod_eq_of_lt h1.1 (by omega)]
  rw [p1, or_add' 8 (x := b1 * 256) (y := 0 + b0 * 1) (a := b1) (by simp) (by omega) (by omega) (by show _ < (256 : Int); omega) (by omega)]
  have p2 : bitsV .and .u64 (shlV .u64 (IntKind.wrap .u64 b2) 16) 2251799813685247 = b2 * 65536 := by
    have := piece_lo 16 (by decide) h2
    refine this.trans ?_
    rw [show ((2 ^ (51 - 16) : Nat) : Int) = 34359738368 from rfl, show ((2 ^ 16 : Nat) : Int) = 65536 from rfl]
    rw [Int.emod_eq_of_lt h2.1 (by omega)]
  rw [p2, or_add' 16 (x := b2 * 65536) (y := 0 + b0 * 1 + b1 * 256) (a := b2) (by simp) (by omega) (by omega) (by show _ < (65536 : Int); omega) (by omega)]
  have p3 : bitsV .and .u64 (shlV .u64 (IntKind.wrap .u64 b3) 24) 2251799813685247 = b3 * 16777216 := by
    have := piece_lo 24 (by decide) h3
    refine this.trans ?_
    rw [show ((2 ^ (51 - 24) : Nat) : Int) = 134217728 from rfl, show ((2 ^ 24 : Nat) : Int) = 16777216 from rfl]
    rw [Int.emod_eq_of_lt h3.1 (by omega)]
  rw [p3, or_add' 24 (x := b3 * 16777216) (y := 0 + b0 * 1 + b1 * 256 + b2 * 65536) (a := b3) (by simp) (by omega) (by omega) (by show _ < (16777216 : Int); omega) (by omega)]
  have p4 : bitsV .and .u64 (shlV .u64 (IntKind.wrap .u64 b4) 32) 2251799813685247 = b4 * 4294967296 := by
    have := piece_lo 32 (by decide) h4
    refine this.trans ?_
    rw [show ((2 ^ (51 - 32) : Nat) : Int) = 524288 from rfl, show ((2 ^ 32 : Nat) : Int) = 4294967296 from rfl]
    rw [Int.emod_eq_of_lt h4.1 (by omega)]
  rw [p4, or_add' 32 (x := b4 * 4294967296) (y := 0 + b0 * 1 + b1 * 256 + b2 * 65536 + b3 * 16777216) (a := b4) (by simp) (by omega) (by omega) (by show _ < (4294967296 : Int); omega) (by omega)]
  have p5 : bitsV .and .u64 (shlV .u64 (IntKind.wrap .u64 b5) 40) 2251799813685247 = b5 * 1099511627776 := by
    have := piece_lo 40 (by decide) h5
    refine this.trans ?_
    rw [show ((2 ^ (51 - 40) : Nat) : Int) = 2048 from rfl, show ((2 ^ 40 : Nat) : Int) = 1099511627776 from rfl]
    rw [Int.emod_eq_of_lt h5.1 (by omega)]
  rw [p5, or_add' 40 (x := b5 * 1099511627776) (y := 0 + b0 * 1 + b1 * 256 + b2 * 65536 + b3 * 16777216 + b4 * 4294967296) (a := b5) (by simp) (by omega) (by omega) (by show _ < (1099511627776 : Int); omega) (by omega)]
  have p6 : bitsV .and .u64 (shlV .u64 (IntKind.wrap .u64 b6) 48) 2251799813685247 = b6 % 8 * 281474976710656 := by
    have := piece_lo 48 (by decide) h6
    refine this.trans ?_
    rw [show ((2 ^ (51 - 48) : Nat) : Int) = 8 from rfl, show ((2 ^ 48 : Nat) : Int) = 281474976710656 from rfl]
  rw [p6, or_add' 48 (x := b6 % 8 * 281474976710656) (y := 0 + b0 * 1 + b1 * 256 + b2 * 65536 + b3 * 16777216 + b4 * 4294967296 + b5 * 1099511627776) (a := b6 % 8) (by simp) (by omega) (by omega) (by show _ < (281474976710656 : Int); omega) (by omega)]
theorem limb_1 {b6 b7 b8 b9 b10 b11 b12 : Int} (h6 : 0 ≤ b6 ∧ b6 < 256) (h7 : 0 ≤ b7 ∧ b7 < 256) (h8 : 0 ≤ b8 ∧ b8 < 256) (h9 : 0 ≤ b9 ∧ b9 < 256) (h10 : 0 ≤ b10 ∧ b10 < 256) (h11 : 0 ≤ b11 ∧ b11 < 256) (h12 : 0 ≤ b12 ∧ b12 < 256) : bitsV .or .u64 (bitsV .or .u64 (bitsV .or .u64 (bitsV .or .u64 (bitsV .or .u64 (bitsV .or .u64 (bitsV .or .u64 (0) (shrV .u64 (IntKind.wrap .u64 b6) 3)) (bitsV .and .u64 (shlV .u64 (IntKind.wrap .u64 b7) 5) 2251799813685247)) (bitsV .and .u64 (shlV .u64 (IntKind.wrap .u64 b8) 13) 2251799813685247)) (bitsV .and .u64 (shlV .u64 (IntKind.wrap .u64 b9) 21) 2251799813685247)) (bitsV .and .u64 (shlV .u64 (IntKind.wrap .u64 b10) 29) 2251799813685247)) (bitsV .and .u64 (shlV .u64 (IntKind.wrap .u64 b11) 37) 2251799813685247)) (bitsV .and .u64 (shlV .u64 (IntKind.wrap .u64 b12) 45) 2251799813685247) = 0 + b6 / 8 + b7 * 32 + b8 * 8192 + b9 * 2097152 + b10 * 536870912 + b11 * 137438953472 + b12 % 64 * 35184372088832 := by
  have p0 : shrV .u64 (IntKind.wrap .u64 b6) 3 = b6 / 8 := by
    have := piece_hi 3 (by decide) h6
    refine this.trans ?_
    rw [show ((2 ^ 3 : Nat) : Int) = 8 from rfl]
  rw [p0, or_add' 0 (x := b6 / 8) (y := 0) (a := b6 / 8) (by simp) (by omega) (by omega) (by show _ < (1 : Int); omega) (by omega)]
  have p1 : bitsV .and .u64 (shlV .u64 (IntKind.wrap .u64 b7) 5) 2251799813685247 = b7 * 32 := by
    have := piece_lo 5 (by decide) h7
    refine this.trans ?_
    rw [show ((2 ^ (51 - 5) : Nat) : Int) = 70368744177664 from rfl, show ((2 ^ 5 : Nat) : Int) = 32 from rfl]
    rw [Int.emod_eq_of_lt h7.1 (by omega)]
  rw [p1, or_add' 5 (x := b7 * 32) (y := 0 + b6 / 8) (a := b7) (by simp) (by omega) (by omega) (by show _ < (32 : Int); omega) (by omega)]
  have p2 : bitsV .and .u64 (shlV .u64 (IntKind.wrap .u64 b8) 13) 2251799813685247 = b8 * 8192 := by
    have := piece_lo 13 (by decide) h8
    refine this.trans ?_
    rw [show ((2 ^ (51 - 13) : Nat) : Int) = 274877906944 from rfl, show ((2 ^ 13 : Nat) : Int) = 8192 from rfl]
    rw [Int.emod_eq_of_lt h8.1 (by omega)]
  rw [p2, or_add' 13 (x := b8 * 8192) (y := 0 + b6 / 8 + b7 * 32) (a := b8) (by simp) (by omega) (by omega) (by show _ < (8192 : Int); omega) (by omega)]
  have p3 : bitsV .and .u64 (shlV .u64 (IntKind.wrap .u64 b9) 21) 2251799813685247 = b9 * 2097152 := by
    have := piece_lo 21 (by decide) h9
    refine this.trans ?_
    rw [show ((2 ^ (51 - 21) : Nat) : Int) = 1073741824 from rfl, show ((2 ^ 21 : Nat) : Int) = 2097152 from rfl]
    rw [Int.emod_eq_of_lt h9.1 (by omega)]
  rw [p3, or_add' 21 (x := b9 * 2097152) (y := 0 + b6 / 8 + b7 * 32 + b8 * 8192) (a := b9) (by simp) (by omega) (by omega) (by show _ < (2097152 : Int); omega) (by omega)]
  have p4 : bitsV .and .u64 (shlV .u64 (IntKind.wrap .u64 b10) 29) 2251799813685247 = b10 * 536870912 := by
    have := piece_lo 29 (by decide) h10
    refine this.trans ?_
    rw [show ((2 ^ (51 - 29) : Nat) : Int) = 4194304 from rfl, show ((2 ^ 29 : Nat) : Int) = 536870912 from rfl]
    rw [Int.emod_eq_of_lt h10.1 (by omega)]
  rw [p4, or_add' 29 (x := b10 * 536870912) (y := 0 + b6 / 8 + b7 * 32 + b8 * 8192 + b9 * 2097152) (a := b10) (by simp) (by omega) (by omega) (by show _ < (536870912 : Int); omega) (by omega)]
  have p5 : bitsV .and .u64 (shlV .u64 (IntKind.wrap .u64 b11) 37) 2251799813685247 = b11 * 137438953472 := by
    have := piece_lo 37 (by decide) h11
    refine this.trans ?_
    rw [show ((2 ^ (51 - 37) : Nat) : Int) = 16384 from rfl, show ((2 ^ 37 : Nat) : Int) = 137438953472 from rfl]
    rw [Int.emod_eq_of_lt h11.1 (by omega)]
  rw [p5, or_add' 37 (x := b11 * 137438953472) (y := 0 + b6 / 8 + b7 * 32 + b8 * 8192 + b9 * 2097152 + b10 * 536870912) (a := b11) (by simp) (by omega) (by omega) (by show _ < (137438953472 : Int); omega) (by omega)]
  have p6 : bitsV .and .u64 (shlV .u64 (IntKind.wrap .u64 b12) 45) 2251799813685247 = b12 % 64 * 35184372088832 := by
    have := piece_lo 45 (by decide) h12
    refine this.trans ?_
    rw [show ((2 ^ (51 - 45) : Nat) : Int) = 64 from rfl, show ((2 ^ 45 : Nat) : Int) = 35184372088832 from rfl]
  rw [p6, or_add' 45 (x := b12 % 64 * 35184372088832) (y := 0 + b6 / 8 + b7 * 32 + b8 * 8192 + b9 * 2097152 + b10 * 536870912 + b11 * 137438953472) (a := b12 % 64) (by simp) (by omega) (by omega) (by show _ < (35184372088832 : Int); omega) (by omega)]
theorem limb_2 {b12 b13 b14 b15 b16 b17 b18 b19 : Int} (h12 : 0 ≤ b12 ∧ b12 < 256) (h13 : 0 ≤ b13 ∧ b13 < 256) (h14 : 0 ≤ b14 ∧ b14 < 256) (h15 : 0 ≤ b15 ∧ b15 < 256) (h16 : 0 ≤ b16 ∧ b16 < 256) (h17 : 0 ≤ b17 ∧ b17 < 256) (h18 : 0 ≤ b18 ∧ b18 < 256) (h19 : 0 ≤ b19 ∧ b19 < 256) : bitsV .or .u64 (bitsV .or .u64 (bitsV .or .u64 (bitsV .or .u64 (bitsV .or .u64 (bitsV .or .u64 (bitsV .or .u64 (bitsV .or .u64 (0) (shrV .u64 (IntKind.wrap .u64 b12) 6)) (bitsV .and .u64 (shlV .u64 (IntKind.wrap .u64 b13) 2) 2251799813685247)) (bitsV .and .u64 (shlV .u64 (IntKind.wrap .u64 b14) 10) 2251799813685247)) (bitsV .and .u64 (shlV .u64 (IntKind.wrap .u64 b15) 18) 2251799813685247)) (bitsV .and .u64 (shlV .u64 (IntKind.wrap .u64 b16) 26) 2251799813685247)) (bitsV .and .u64 (shlV .u64 (IntKind.wrap .u64 b17) 34) 2251799813685247)) (bitsV .and .u64 (shlV .u64 (IntKind.wrap .u64 b18) 42) 2251799813685247)) (bitsV .and .u64 (shlV .u64 (IntKind.wrap .u64 b19) 50) 2251799813685247) = 0 + b12 / 64 + b13 * 4 + b14 * 1024 + b15 * 262144 + b16 * 67108864 + b17 * 17179869184 + b18 * 4398046511104 + b19 % 2 * 1125899906842624 := by
  have p0 : shrV .u64 (IntKind.wrap .u64 b12) 6 = b12 / 64 := by
    have := piece_hi 6 (by decide) h12
    refine this.trans ?_
    rw [show ((2 ^ 6 : Nat) : Int) = 64 from rfl]
  rw [p0, or_add' 0 (x := b12 / 64) (y := 0) (a := b12 / 64) (by simp) (by omega) (by omega) (by show _ < (1 : Int); omega) (by omega)]
  have p1 : bitsV .and .u64 (shlV .u64 (IntKind.wrap .u64 b13) 2) 2251799813685247 = b13 * 4 := by
    have := piece_lo 2 (by decide) h13
    refine this.trans ?_
    rw [show ((2 ^ (51 - 2) : Nat) : Int) = 562949953421312 from rfl, show ((2 ^ 2 : Nat) : Int) = 4 from rfl]
    rw [Int.emod_eq_of_lt h13.1 (by omega)]
  rw [p1, or_add' 2 (x := b13 * 4) (y := 0 + b12 / 64) (a := b13) (by simp) (by omega) (by omega) (by show _ < (4 : Int); omega) (by omega)]
  have p2 : bitsV .and .u64 (shlV .u64 (IntKind.wrap .u64 b14) 10) 2251799813685247 = b14 * 1024 := by
    have := piece_lo 10 (by decide) h14
    refine this.trans ?_
    rw [show ((2 ^ (51 - 10) : Nat) : Int) = 2199023255552 from rfl, show ((2 ^ 10 : Nat) : Int) = 1024 from rfl]
    rw [Int.emod_eq_of_lt h14.1 (by omega)]
  rw [p2, or_add' 10 (x := b14 * 1024) (y := 0 + b12 / 64 + b13 * 4) (a := b14) (by simp) (by omega) (by omega) (by show _ < (1024 : Int); omega) (by omega)]
  have p3 : bitsV .and .u64 (shlV .u64 (IntKind.wrap .u64 b15) 18) 2251799813685247 = b15 * 262144 := by
    have := piece_lo 18 (by decide) h15
    refine this.trans ?_
    rw [show ((2 ^ (51 - 18) : Nat) : Int) = 8589934592 from rfl, show ((2 ^ 18 : Nat) : Int) = 262144 from rfl]
    rw [Int.emod_eq_of_lt h15.1 (by omega)]
  rw [p3, or_add' 18 (x := b15 * 262144) (y := 0 + b12 / 64 + b13 * 4 + b14 * 1024) (a := b15) (by simp) (by omega) (by omega) (by show _ < (262144 : Int); omega) (by omega)]
  have p4 : bitsV .and .u64 (shlV .u64 (IntKind.wrap .u64 b16) 26) 2251799813685247 = b16 * 67108864 := by
    have := piece_lo 26 (by decide) h16
    refine this.trans ?_
    rw [show ((2 ^ (51 - 26) : Nat) : Int) = 33554432 from rfl, show ((2 ^ 26 : Nat) : Int) = 67108864 from rfl]
    rw [Int.emod_eq_of_lt h16.1 (by omega)]
  rw [p4, or_add' 26 (x := b16 * 67108864) (y := 0 + b12 / 64 + b13 * 4 + b14 * 1024 + b15 * 262144) (a := b16) (by simp) (by omega) (by omega) (by show _ < (67108864 : Int); omega) (by omega)]
  have p5 : bitsV .and .u64 (shlV .u64 (IntKind.wrap .u64 b17) 34) 2251799813685247 = b17 * 17179869184 := by
    have := piece_lo 34 (by decide) h17
    refine this.trans ?_
    rw [show ((2 ^ (51 - 34) : Nat) : Int) = 131072 from rfl, show ((2 ^ 34 : Nat) : Int) = 17179869184 from rfl]
    rw [Int.emod_eq_of_lt h17.1 (by omega)]
  rw [p5, or_add' 34 (x := b17 * 17179869184) (y := 0 + b12 / 64 + b13 * 4 + b14 * 1024 + b15 * 262144 + b16 * 67108864) (a := b17) (by simp) (by omega) (by omega) (by show _ < (17179869184 : Int); omega) (by omega)]
  have p6 : bitsV .and .u64 (shlV .u64 (IntKind.wrap .u64 b18) 42) 2251799813685247 = b18 * 4398046511104 := by
    have := piece_lo 42 (by decide) h18
    refine this.trans ?_
    rw [show ((2 ^ (51 - 42) : Nat) : Int) = 512 from rfl, show ((2 ^ 42 : Nat) : Int) = 4398046511104 from rfl]
    rw [Int.emod_eq_of_lt h18.1 (by omega)]
  rw [p6, or_add' 42 (x := b18 * 4398046511104) (y := 0 + b12 / 64 + b13 * 4 + b14 * 1024 + b15 * 262144 + b16 * 67108864 + b17 * 17179869184) (a := b18) (by simp) (by omega) (by omega) (by show _ < (4398046511104 : Int); omega) (by omega)]
  have p7 : bitsV .and .u64 (shlV .u64 (IntKind.wrap .u64 b19) 50) 2251799813685247 = b19 % 2 * 1125899906842624 := by
    have := piece_lo 50 (by decide) h19
    refine this.trans ?_
    rw [show ((2 ^ (51 - 50) : Nat) : Int) = 2 from rfl, show ((2 ^ 50 : Nat) : Int) = 1125899906842624 from rfl]
  rw [p7, or_add' 50 (x := b19 % 2 * 1125899906842624) (y := 0 + b12 / 64 + b13 * 4 + b14 * 1024 + b15 * 262144 + b16 * 67108864 + b17 * 17179869184 + b18 * 4398046511104) (a := b19 % 2) (by simp) (by omega) (by omega) (by show _ < (1125899906842624 : Int); omega) (by omega)]
theorem limb_3 {b19 b20 b21 b22 b23 b24 b25 : Int} (h19 : 0 ≤ b19 ∧ b19 < 256) (h20 : 0 ≤ b20 ∧ b20 < 256) (h21 : 0 ≤ b21 ∧ b21 < 256) (h22 : 0 ≤ b22 ∧ b22 < 256) (h23 : 0 ≤ b23 ∧ b23 < 256) (h24 : 0 ≤ b24 ∧ b24 < 256) (h25 : 0 ≤ b25 ∧ b25 < 256) : bitsV .or .u64 (bitsV .or .u64 (bitsV .or .u64 (bitsV .or .u64 (bitsV .or .u64 (bitsV .or .u64 (bitsV .or .u64 (0) (shrV .u64 (IntKind.wrap .u64 b19) 1)) (bitsV .and .u64 (shlV .u64 (IntKind.wrap .u64 b20) 7) 2251799813685247)) (bitsV .and .u64 (shlV .u64 (IntKind.wrap .u64 b21) 15) 2251799813685247)) (bitsV .and .u64 (shlV .u64 (IntKind.wrap .u64 b22) 23) 2251799813685247)) (bitsV .and .u64 (shlV .u64 (IntKind.wrap .u64 b23) 31) 2251799813685247)) (bitsV .and .u64 (shlV .u64 (IntKind.wrap .u64 b24) 39) 2251799813685247)) (bitsV .and .u64 (shlV .u64 (IntKind.wrap .u64 b25) 47) 2251799813685247) = 0 + b19 / 2 + b20 * 128 + b21 * 32768 + b22 * 8388608 + b23 * 2147483648 + b24 * 549755813888 + b25 % 16 * 140737488355328 := by
  have p0 : shrV .u64 (IntKind.wrap .u64 b19) 1 = b19 / 2 := by
    have := piece_hi 1 (by decide) h19
    refine this.trans ?_
    rw [show ((2 ^ 1 : Nat) : Int) = 2 from rfl]
  rw [p0, or_add' 0 (x := b19 / 2) (y := 0) (a := b19 / 2) (by simp) (by omega) (by omega) (by show _ < (1 : Int); omega) (by omega)]
  have p1 : bitsV .and .u64 (shlV .u64 (IntKind.wrap .u64 b20) 7) 2251799813685247 = b20 * 128 := by
    have := piece_lo 7 (by decide) h20
    refine this.trans ?_
    rw [show ((2 ^ (51 - 7) : Nat) : Int) = 17592186044416 from rfl, show ((2 ^ 7 : Nat) : Int) = 128 from rfl]
    rw [Int.emod_eq_of_lt h20.1 (by omega)]
  rw [p1, or_add' 7 (x := b20 * 128) (y := 0 + b19 / 2) (a := b20) (by simp) (by omega) (by omega) (by show _ < (128 : Int); omega) (by omega)]
  have p2 : bitsV .and .u64 (shlV .u64 (IntKind.wrap .u64 b21) 15) 2251799813685247 = b21 * 32768 := by
    have := piece_lo 15 (by decide) h21
    refine this.trans ?_
    rw [show ((2 ^ (51 - 15) : Nat) : Int) = 68719476736 from rfl, show ((2 ^ 15 : Nat) : Int) = 32768 from rfl]
    rw [Int.emod_eq_of_lt h21.1 (by omega)]
  rw [p2, or_add' 15 (x := b21 * 32768) (y := 0 + b19 / 2 + b20 * 128) (a := b21) (by simp) (by omega) (by omega) (by show _ < (32768 : Int); omega) (by omega)]
  have p3 : bitsV .and .u64 (shlV .u64 (IntKind.wrap .u64 b22) 23) 2251799813685247 = b22 * 8388608 := by
    have := piece_lo 23 (by decide) h22
    refine this.trans ?_
    rw [show ((2 ^ (51 - 23) : Nat) : Int) = 268435456 from rfl, show ((2 ^ 23 : Nat) : Int) = 8388608 from rfl]
    rw [Int.emod_eq_of_lt h22.1 (by omega)]
  rw [p3, or_add' 23 (x := b22 * 8388608) (y := 0 + b19 / 2 + b20 * 128 + b21 * 32768) (a := b22) (by simp) (by omega) (by omega) (by show _ < (8388608 : Int); omega) (by omega)]
  have p4 : bitsV .and .u64 (shlV .u64 (IntKind.wrap .u64 b23) 31) 2251799813685247 = b23 * 2147483648 := by
    have := piece_lo 31 (by decide) h23
    refine this.trans ?_
    rw [show ((2 ^ (51 - 31) : Nat) : Int) = 1048576 from rfl, show ((2 ^ 31 : Nat) : Int) = 2147483648 from rfl]
    rw [Int.emod_eq_of_lt h23.1 (by omega)]
  rw [p4, or_add' 31 (x := b23 * 2147483648) (y := 0 + b19 / 2 + b20 * 128 + b21 * 32768 + b22 * 8388608) (a := b23) (by simp) (by omega) (by omega) (by show _ < (2147483648 : Int); omega) (by omega)]
  have p5 : bitsV .and .u64 (shlV .u64 (IntKind.wrap .u64 b24) 39) 2251799813685247 = b24 * 549755813888 := by
    have := piece_lo 39 (by decide) h24
    refine this.trans ?_
    rw [show ((2 ^ (51 - 39) : Nat) : Int) = 4096 from rfl, show ((2 ^ 39 : Nat) : Int) = 549755813888 from rfl]
    rw [Int.emod_eq_of_lt h24.1 (by omega)]
  rw [p5, or_add' 39 (x := b24 * 549755813888) (y := 0 + b19 / 2 + b20 * 128 + b21 * 32768 + b22 * 8388608 + b23 * 2147483648) (a := b24) (by simp) (by omega) (by omega) (by show _ < (549755813888 : Int); omega) (by omega)]
  have p6 : bitsV .and .u64 (shlV .u64 (IntKind.wrap .u64 b25) 47) 2251799813685247 = b25 % 16 * 140737488355328 := by
    have := piece_lo 47 (by decide) h25
    refine this.trans ?_
    rw [show ((2 ^ (51 - 47) : Nat) : Int) = 16 from rfl, show ((2 ^ 47 : Nat) : Int) = 140737488355328 from rfl]
  rw [p6, or_add' 47 (x := b25 % 16 * 140737488355328) (y := 0 + b19 / 2 + b20 * 128 + b21 * 32768 + b22 * 8388608 + b23 * 2147483648 + b24 * 549755813888) (a := b25 % 16) (by simp) (by omega) (by omega) (by show _ < (140737488355328 : Int); omega) (by omega)]
theorem limb_4 {b25 b26 b27 b28 b29 b30 b31 : Int} (h25 : 0 ≤ b25 ∧ b25 < 256) (h26 : 0 ≤ b26 ∧ b26 < 256) (h27 : 0 ≤ b27 ∧ b27 < 256) (h28 : 0 ≤ b28 ∧ b28 < 256) (h29 : 0 ≤ b29 ∧ b29 < 256) (h30 : 0 ≤ b30 ∧ b30 < 256) (h31 : 0 ≤ b31 ∧ b31 < 256) : bitsV .or .u64 (bitsV .or .u64 (bitsV .or .u64 (bitsV .or .u64 (bitsV .or .u64 (bitsV .or .u64 (bitsV .or .u64 (0) (shrV .u64 (IntKind.wrap .u64 b25) 4)) (bitsV .and .u64 (shlV .u64 (IntKind.wrap .u64 b26) 4) 2251799813685247)) (bitsV .and .u64 (shlV .u64 (IntKind.wrap .u64 b27) 12) 2251799813685247)) (bitsV .and .u64 (shlV .u64 (IntKind.wrap .u64 b28) 20) 2251799813685247)) (bitsV .and .u64 (shlV .u64 (IntKind.wrap .u64 b29) 28) 2251799813685247)) (bitsV .and .u64 (shlV .u64 (IntKind.wrap .u64 b30) 36) 2251799813685247)) (bitsV .and .u64 (shlV .u64 (IntKind.wrap .u64 b31) 44) 2251799813685247) = 0 + b25 / 16 + b26 * 16 + b27 * 4096 + b28 * 1048576 + b29 * 268435456 + b30 * 68719476736 + b31 % 128 * 17592186044416 := by
  have p0 : shrV .u64 (IntKind.wrap .u64 b25) 4 = b25 / 16 := by
    have := piece_hi 4 (by decide) h25
    refine this.trans ?_
    rw [show ((2 ^ 4 : Nat) : Int) = 16 from rfl]
  rw [p0, or_add' 0 (x := b25 / 16) (y := 0) (a := b25 / 16) (by simp) (by omega) (by omega) (by show _ < (1 : Int); omega) (by omega)]
  have p1 : bitsV .and .u64 (shlV .u64 (IntKind.wrap .u64 b26) 4) 2251799813685247 = b26 * 16 := by
    have := piece_lo 4 (by decide) h26
    refine this.trans ?_
    rw [show ((2 ^ (51 - 4) : Nat) : Int) = 140737488355328 from rfl, show ((2 ^ 4 : Nat) : Int) = 16 from rfl]
    rw [Int.emod_eq_of_lt h26.1 (by omega)]
  rw [p1, or_add' 4 (x := b26 * 16) (y := 0 + b25 / 16) (a := b26) (by simp) (by omega) (by omega) (by show _ < (16 : Int); omega) (by omega)]
  have p2 : bitsV .and .u64 (shlV .u64 (IntKind.wrap .u64 b27) 12) 2251799813685247 = b27 * 4096 := by
    have := piece_lo 12 (by decide) h27
    refine this.trans ?_
    rw [show ((2 ^ (51 - 12) : Nat) : Int) = 549755813888 from rfl, show ((2 ^ 12 : Nat) : Int) = 4096 from rfl]
    rw [Int.emod_eq_of_lt h27.1 (by omega)]
  rw [p2, or_add' 12 (x := b27 * 4096) (y := 0 + b25 / 16 + b26 * 16) (a := b27) (by simp) (by omega) (by omega) (by show _ < (4096 : Int); omega) (by omega)]
  have p3 : bitsV .and .u64 (shlV .u64 (IntKind.wrap .u64 b28) 20) 2251799813685247 = b28 * 1048576 := by
    have := piece_lo 20 (by decide) h28
    refine this.trans ?_
    rw [show ((2 ^ (51 - 20) : Nat) : Int) = 2147483648 from rfl, show ((2 ^ 20 : Nat) : Int) = 1048576 from rfl]
    rw [Int.emod_eq_of_lt h28.1 (by omega)]
  rw [p3, or_add' 20 (x := b28 * 1048576) (y := 0 + b25 / 16 + b26 * 16 + b27 * 4096) (a := b28) (by simp) (by omega) (by omega) (by show _ < (1048576 : Int); omega) (by omega)]
  have p4 : bitsV .and .u64 (shlV .u64 (IntKind.wrap .u64 b29) 28) 2251799813685247 = b29 * 268435456 := by
    have := piece_lo 28 (by decide) h29
    refine this.trans ?_
    rw [show ((2 ^ (51 - 28) : Nat) : Int) = 8388608 from rfl, show ((2 ^ 28 : Nat) : Int) = 268435456 from rfl]
    rw [Int.emod_eq_of_lt h29.1 (by omega)]
  rw [p4, or_add' 28 (x := b29 * 268435456) (y := 0 + b25 / 16 + b26 * 16 + b27 * 4096 + b28 * 1048576) (a := b29) (by simp) (by omega) (by omega) (by show _ < (268435456 : Int); omega) (by omega)]
  have p5 : bitsV .and .u64 (shlV .u64 (IntKind.wrap .u64 b30) 36) 2251799813685247 = b30 * 68719476736 := by
    have := piece_lo 36 (by decide) h30
    refine this.trans ?_
    rw [show ((2 ^ (51 - 36) : Nat) : Int) = 32768 from rfl, show ((2 ^ 36 : Nat) : Int) = 68719476736 from rfl]
    rw [Int.emod_eq_of_lt h30.1 (by omega)]
  rw [p5, or_add' 36 (x := b30 * 68719476736) (y := 0 + b25 / 16 + b26 * 16 + b27 * 4096 + b28 * 1048576 + b29 * 268435456) (a := b30) (by simp) (by omega) (by omega) (by show _ < (68719476736 : Int); omega) (by omega)]
  have p6 : bitsV .and .u64 (shlV .u64 (IntKind.wrap .u64 b31) 44) 2251799813685247 = b31 % 128 * 17592186044416 := by
    have := piece_lo 44 (by decide) h31
    refine this.trans ?_
    rw [show ((2 ^ (51 - 44) : Nat) : Int) = 128 from rfl, show ((2 ^ 44 : Nat) : Int) = 17592186044416 from rfl]
  rw [p6, or_add' 44 (x := b31 % 128 * 17592186044416) (y := 0 + b25 / 16 + b26 * 16 + b27 * 4096 + b28 * 1048576 + b29 * 268435456 + b30 * 68719476736) (a := b31 % 128) (by simp) (by omega) (by omega) (by show _ < (17592186044416 : Int); omega) (by omega)]
/-- The number of 32 bytes, without its topmost bit. -/
def bval (x : List Int) : Int := x.getD 0 0 + x.getD 1 0 * 256 + x.getD 2 0 * 65536 + x.getD 3 0 * 16777216 + x.getD 4 0 * 4294967296 + x.getD 5 0 * 1099511627776 + x.getD 6 0 * 281474976710656 + x.getD 7 0 * 72057594037927936 + x.getD 8 0 * 18446744073709551616 + x.getD 9 0 * 4722366482869645213696 + x.getD 10 0 * 1208925819614629174706176 + x.getD 11 0 * 309485009821345068724781056 + x.getD 12 0 * 79228162514264337593543950336 + x.getD 13 0 * 20282409603651670423947251286016 + x.getD 14 0 * 5192296858534827628530496329220096 + x.getD 15 0 * 1329227995784915872903807060280344576 + x.getD 16 0 * 340282366920938463463374607431768211456 + x.getD 17 0 * 87112285931760246646623899502532662132736 + x.getD 18 0 * 22300745198530623141535718272648361505980416 + x.getD 19 0 * 5708990770823839524233143877797980545530986496 + x.getD 20 0 * 1461501637330902918203684832716283019655932542976 + x.getD 21 0 * 374144419156711147060143317175368453031918731001856 + x.getD 22 0 * 95780971304118053647396689196894323976171195136475136 + x.getD 23 0 * 24519928653854221733733552434404946937899825954937634816 + x.getD 24 0 * 6277101735386680763835789423207666416102355444464034512896 + x.getD 25 0 * 1606938044258990275541962092341162602522202993782792835301376 + x.getD 26 0 * 411376139330301510538742295639337626245683966408394965837152256 + x.getD 27 0 * 105312291668557186697918027683670432318895095400549111254310977536 + x.getD 28 0 * 26959946667150639794667015087019630673637144422540572481103610249216 + x.getD 29 0 * 6901746346790563787434755862277025452451108972170386555162524223799296 + x.getD 30 0 * 1766847064778384329583297500742918515827483896875618958121606201292619776 + x.getD 31 0 % 128 * 452312848583266388373324160190187140051835877600158453279131187530910662656
theorem fromBytes_eq {x : List Int} (h : Byt x) : field_FromBytes x = some (fe (bval x)) := by
  rw [field_FromBytes, jn_eq, fb_run]
  have e31 : bitsV .and .u8 (x.getD 31 0) 127 = x.getD 31 0 % 128 := and_low8 7 (by decide) (by decide) (h 31).1 (h 31).2
  have h31 : 0 ≤ x.getD 31 0 % 128 ∧ x.getD 31 0 % 128 < 256 := by have := h 31; omega
  rw [e31, limb_0 (h 0) (h 1) (h 2) (h 3) (h 4) (h 5) (h 6), limb_1 (h 6) (h 7) (h 8) (h 9) (h 10) (h 11) (h 12), limb_2 (h 12) (h 13) (h 14) (h 15) (h 16) (h 17) (h 18) (h 19), limb_3 (h 19) (h 20) (h 21) (h 22) (h 23) (h 24) (h 25), limb_4 (h 25) (h 26) (h 27) (h 28) (h 29) (h 30) h31]
  have g0 := h 0
  have g1 := h 1
  have g2 := h 2
  have g3 := h 3
  have g4 := h 4
  have g5 := h 5
  have g6 := h 6
  have g7 := h 7
  have g8 := h 8
  have g9 := h 9
  have g10 := h 10
  have g11 := h 11
  have g12 := h 12
  have g13 := h 13
  have g14 := h 14
  have g15 := h 15
  have g16 := h 16
  have g17 := h 17
  have g18 := h 18
  have g19 := h 19
  have g20 := h 20
  have g21 := h 21
  have g22 := h 22
  have g23 := h 23
  have g24 := h 24
  have g25 := h 25
  have g26 := h 26
  have g27 := h 27
  have g28 := h 28
  have g29 := h 29
  have g30 := h 30
  have g31 := h 31
  rw [opt_some (reduce_eq (U5.mk5 (by omega) (by omega) (by omega) (by omega) (by omega)))]
  unfold fred fe
  congr 3
  simp only [fval, bval, List.getD_cons_zero, List.getD_cons_succ]
  omega
end Go.Proofs.YtiflckckekjbnaaDoor
