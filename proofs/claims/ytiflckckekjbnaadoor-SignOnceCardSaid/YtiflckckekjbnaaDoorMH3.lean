/- Texts of a proof, one behind the other: S1 L1. -/
import Derived.Test.YtiflckckekjbnaaDoorMH2
import Derived.Test.YtiflckckekjbnaaDoorProg
/- Short forms. -/
namespace Go.Proofs.YtiflckckekjbnaaDoor
open Go Go.Sx Go.RowKit
set_option linter.all false
set_option maxHeartbeats 400000
set_option maxRecDepth 100000
/- farebox/field.carry -/
def r76_0 : List J := [
  .op ⟨some 1, none, .bx 58 (.tmp 0)⟩,
  .op ⟨some 2, none, .al 58 [.ints .u64 5 (List.replicate 5 0)]⟩]
def r76_1 : List J := [
  .op ⟨some 3, none, .ia 5 1 (.tmp 1) (.const (.int .i64 0))⟩,
  .op ⟨some 4, none, .ld 1 false (.tmp 3)⟩,
  .op ⟨some 5, none, .bin .and (.tmp 4) (.const (.int .u64 2251799813685247))⟩,
  .op ⟨some 6, none, .ia 5 1 (.tmp 1) (.const (.int .i64 4))⟩,
  .op ⟨some 7, none, .ld 1 false (.tmp 6)⟩,
  .op ⟨some 8, none, .bin .shr (.tmp 7) (.const (.int .u64 51))⟩,
  .op ⟨some 9, none, .bin .mul (.tmp 8) (.const (.int .u64 19))⟩,
  .op ⟨some 10, none, .bin .add (.tmp 5) (.tmp 9)⟩,
  .op ⟨some 11, none, .ia 5 1 (.tmp 1) (.const (.int .i64 1))⟩,
  .op ⟨some 12, none, .ld 1 false (.tmp 11)⟩,
  .op ⟨some 13, none, .bin .and (.tmp 12) (.const (.int .u64 2251799813685247))⟩,
  .op ⟨some 14, none, .ia 5 1 (.tmp 1) (.const (.int .i64 0))⟩,
  .op ⟨some 15, none, .ld 1 false (.tmp 14)⟩,
  .op ⟨some 16, none, .bin .shr (.tmp 15) (.const (.int .u64 51))⟩,
  .op ⟨some 17, none, .bin .add (.tmp 13) (.tmp 16)⟩,
  .op ⟨some 18, none, .ia 5 1 (.tmp 1) (.const (.int .i64 2))⟩,
  .op ⟨some 19, none, .ld 1 false (.tmp 18)⟩,
  .op ⟨some 20, none, .bin .and (.tmp 19) (.const (.int .u64 2251799813685247))⟩,
  .op ⟨some 21, none, .ia 5 1 (.tmp 1) (.const (.int .i64 1))⟩,
  .op ⟨some 22, none, .ld 1 false (.tmp 21)⟩,
  .op ⟨some 23, none, .bin .shr (.tmp 22) (.const (.int .u64 51))⟩,
  .op ⟨some 24, none, .bin .add (.tmp 20) (.tmp 23)⟩,
  .op ⟨some 25, none, .ia 5 1 (.tmp 1) (.const (.int .i64 3))⟩,
  .op ⟨some 26, none, .ld 1 false (.tmp 25)⟩,
  .op ⟨some 27, none, .bin .and (.tmp 26) (.const (.int .u64 2251799813685247))⟩,
  .op ⟨some 28, none, .ia 5 1 (.tmp 1) (.const (.int .i64 2))⟩,
  .op ⟨some 29, none, .ld 1 false (.tmp 28)⟩,
  .op ⟨some 30, none, .bin .shr (.tmp 29) (.const (.int .u64 51))⟩,
  .op ⟨some 31, none, .bin .add (.tmp 27) (.tmp 30)⟩,
  .op ⟨some 32, none, .ia 5 1 (.tmp 1) (.const (.int .i64 4))⟩,
  .op ⟨some 33, none, .ld 1 false (.tmp 32)⟩,
  .op ⟨some 34, none, .bin .and (.tmp 33) (.const (.int .u64 2251799813685247))⟩,
  .op ⟨some 35, none, .ia 5 1 (.tmp 1) (.const (.int .i64 3))⟩,
  .op ⟨some 36, none, .ld 1 false (.tmp 35)⟩,
  .op ⟨some 37, none, .bin .shr (.tmp 36) (.const (.int .u64 51))⟩,
  .op ⟨some 38, none, .bin .add (.tmp 34) (.tmp 37)⟩,
  .op ⟨some 39, none, .bd [.ints .u64 5 (List.replicate 5 0)] [(0, 1, (.tmp 10)), (1, 1, (.tmp 17)), (2, 1, (.tmp 24)), (3, 1, (.tmp 31)), (4, 1, (.tmp 38))]⟩,
  .op ⟨none, none, .st 5 (.tmp 2) (.tmp 39)⟩]
def d76 : FnD := ⟨40, [.cell 2 5 true], (.seq (.ops r76_0) (.seq (.ops r76_1) .ret))⟩
theorem ok76 : okF Tryd.prog 76 d76 = true := by kernel_rfl
/- farebox/field.reduce -/
def r70_0 : List J := [
  .op ⟨some 1, none, .bx 58 (.tmp 0)⟩,
  .op ⟨some 2, none, .al 58 [.ints .u64 5 (List.replicate 5 0)]⟩]
def r70_1 : List J := [
  .op ⟨some 7, none, .ld 5 true (.tmp 1)⟩,
  .op ⟨some 8, none, .call 76 [(.tmp 7)]⟩,
  .op ⟨some 9, none, .call 76 [(.tmp 8)]⟩,
  .op ⟨none, none, .st 5 (.tmp 1) (.tmp 9)⟩]
def r70_2 : List J := [
  .op ⟨some 10, none, .ia 5 1 (.tmp 1) (.const (.int .i64 0))⟩,
  .op ⟨some 11, none, .ld 1 false (.tmp 10)⟩,
  .op ⟨some 12, none, .bin .add (.tmp 11) (.const (.int .u64 19))⟩,
  .op ⟨some 13, none, .bin .shr (.tmp 12) (.const (.int .u64 51))⟩,
  .op ⟨some 3, none, .mv (.tmp 13)⟩]
def r70_3 : List J := [
  .op ⟨some 14, none, .sla 5 1 (.tmp 1) (some (.const (.int .i64 1))) none none⟩,
  .op ⟨some 15, none, .len (.tmp 14)⟩,
  .op ⟨some 16, none, .mv (.const (.int .i64 0))⟩]
def r70_4 : List J := [
  .op ⟨some 17, none, .bin .lss (.tmp 16) (.tmp 15)⟩]
def r70_5 : List J := [
  .op ⟨some 18, none, .ias 1 (.tmp 14) (.tmp 16)⟩,
  .op ⟨some 19, none, .ld 1 false (.tmp 18)⟩,
  .op ⟨some 5, none, .mv (.tmp 19)⟩]
def r70_6 : List J := [
  .op ⟨some 20, none, .mv (.tmp 5)⟩,
  .op ⟨some 21, none, .mv (.tmp 3)⟩,
  .op ⟨some 22, none, .bin .add (.tmp 20) (.tmp 21)⟩,
  .op ⟨some 23, none, .bin .shr (.tmp 22) (.const (.int .u64 51))⟩,
  .op ⟨some 3, none, .mv (.tmp 23)⟩]
def k70_1 : IC := (.seq (.ops r70_5) (.ops r70_6))
def r70_7 : List J := [
  .op ⟨some 24, none, .bin .add (.tmp 16) (.const (.int .i64 1))⟩,
  .op ⟨some 16, none, .mv (.tmp 24)⟩]
def l70_1 : IC := (.seq (.ops r70_4) (.seq (.cond (.tmp 17) .skip (.exit 0)) (.seq (.block 1 k70_1) (.ops r70_7))))
def k70_0 : IC := (.loop l70_1)
def r70_8 : List J := [
  .op ⟨some 25, none, .ia 5 1 (.tmp 1) (.const (.int .i64 0))⟩,
  .op ⟨some 26, none, .ld 1 false (.tmp 25)⟩,
  .op ⟨some 27, none, .mv (.tmp 3)⟩,
  .op ⟨some 28, none, .bin .mul (.const (.int .u64 19)) (.tmp 27)⟩,
  .op ⟨some 29, none, .bin .add (.tmp 26) (.tmp 28)⟩,
  .op ⟨some 30, none, .ia 5 1 (.tmp 1) (.const (.int .i64 0))⟩,
  .op ⟨none, none, .st 1 (.tmp 30) (.tmp 29)⟩]
def r70_9 : List J := [
  .op ⟨some 31, none, .mv (.const (.int .i64 0))⟩]
def r70_10 : List J := [
  .op ⟨some 32, none, .bin .lss (.tmp 31) (.const (.int .i64 4))⟩]
def r70_11 : List J := [
  .op ⟨some 33, none, .mv (.tmp 31)⟩,
  .op ⟨some 6, none, .mv (.tmp 33)⟩]
def r70_12 : Sch :=
  (.p [0] (.op ⟨some 34, none, .mv (.tmp 6)⟩)
  (.p [1] (.op ⟨some 35, none, .bin .add (.tmp 34) (.const (.int .i64 1))⟩)
  (.p [2] (.op ⟨some 36, none, .ia 5 1 (.tmp 1) (.tmp 35)⟩)
  (.p [4] (.op ⟨some 38, none, .mv (.tmp 6)⟩)
  (.p [5] (.op ⟨some 39, none, .ia 5 1 (.tmp 1) (.tmp 38)⟩)
  (.q [3] (.op ⟨some 37, none, .ld 1 false (.tmp 36)⟩)
  (.q [6] (.op ⟨some 40, none, .ld 1 false (.tmp 39)⟩)
  (.p [7] (.op ⟨some 41, none, .bin .shr (.tmp 40) (.const (.int .u64 51))⟩)
  (.p [8] (.op ⟨some 42, none, .bin .add (.tmp 37) (.tmp 41)⟩)
  (.p [9] (.op ⟨some 43, none, .ia 5 1 (.tmp 1) (.tmp 35)⟩)
  (.e 10 ⟨none, none, .st 1 (.tmp 43) (.tmp 42)⟩
  .nil)))))))))))
def r70_13 : List J := [
  .op ⟨some 44, none, .mv (.tmp 6)⟩,
  .op ⟨some 45, none, .ia 5 1 (.tmp 1) (.tmp 44)⟩,
  .op ⟨some 46, none, .ld 1 false (.tmp 45)⟩,
  .op ⟨some 47, none, .bin .and (.tmp 46) (.const (.int .u64 2251799813685247))⟩,
  .op ⟨some 48, none, .ia 5 1 (.tmp 1) (.tmp 44)⟩,
  .op ⟨none, none, .st 1 (.tmp 48) (.tmp 47)⟩]
def k70_3 : IC := (.seq (.ops r70_11) (.seq (.draw r70_12 [10]) (.ops r70_13)))
def r70_14 : List J := [
  .op ⟨some 49, none, .bin .add (.tmp 31) (.const (.int .i64 1))⟩,
  .op ⟨some 31, none, .mv (.tmp 49)⟩]
def l70_2 : IC := (.seq (.ops r70_10) (.seq (.cond (.tmp 32) .skip (.exit 2)) (.seq (.block 3 k70_3) (.ops r70_14))))
def k70_2 : IC := (.loop l70_2)
def r70_15 : List J := [
  .op ⟨some 50, none, .ia 5 1 (.tmp 1) (.const (.int .i64 4))⟩,
  .op ⟨some 51, none, .ld 1 false (.tmp 50)⟩,
  .op ⟨some 52, none, .bin .and (.tmp 51) (.const (.int .u64 2251799813685247))⟩,
  .op ⟨some 53, none, .ia 5 1 (.tmp 1) (.const (.int .i64 4))⟩,
  .op ⟨none, none, .st 1 (.tmp 53) (.tmp 52)⟩]
def r70_16 : List J := [
  .op ⟨some 54, none, .ld 5 true (.tmp 1)⟩,
  .op ⟨none, none, .st 5 (.tmp 2) (.tmp 54)⟩]
def d70 : FnD := ⟨55, [.cell 2 5 true], (.seq (.ops r70_0) (.seq (.ops r70_1) (.seq (.ops r70_2) (.seq (.seq (.ops r70_3) (.block 0 k70_0)) (.seq (.ops r70_8) (.seq (.seq (.ops r70_9) (.block 2 k70_2)) (.seq (.ops r70_15) (.seq (.ops r70_16) .ret))))))))⟩
theorem ok70 : okF Tryd.prog 70 d70 = true := by kernel_rfl
/- farebox/field.FromBytes -/
def r33_0 : List J := [
  .op ⟨some 1, none, .bx 26 (.tmp 0)⟩,
  .op ⟨some 2, none, .al 58 [.ints .u64 5 (List.replicate 5 0)]⟩]
def r33_1 : List J := [
  .op ⟨some 3, none, .al 58 [.ints .u64 5 (List.replicate 5 0)]⟩]
def r33_2 : List J := [
  .op ⟨some 8, none, .ld 32 true (.tmp 1)⟩,
  .op ⟨some 9, none, .mv (.const (.int .i64 0))⟩]
def r33_3 : List J := [
  .op ⟨some 10, none, .bin .lss (.tmp 9) (.const (.int .i64 32))⟩]
def r33_4 : List J := [
  .op ⟨some 11, none, .mv (.tmp 9)⟩,
  .op ⟨some 12, none, .idx 32 1 false (.tmp 8) (.tmp 9)⟩,
  .op ⟨some 4, none, .mv (.tmp 11)⟩,
  .op ⟨some 5, none, .mv (.tmp 12)⟩]
def r33_5 : List J := [
  .op ⟨some 13, none, .mv (.tmp 4)⟩,
  .op ⟨some 14, none, .bin .eql (.tmp 13) (.const (.int .i64 31))⟩]
def r33_6 : List J := [
  .op ⟨some 15, none, .mv (.tmp 5)⟩,
  .op ⟨some 16, none, .bin .and (.tmp 15) (.const (.int .u8 127))⟩,
  .op ⟨some 5, none, .mv (.tmp 16)⟩]
def r33_7 : List J := [
  .op ⟨some 17, none, .mv (.tmp 4)⟩,
  .op ⟨some 18, none, .bin .mul (.const (.int .i64 8)) (.tmp 17)⟩,
  .op ⟨some 19, none, .bin .quo (.tmp 18) (.const (.int .i64 51))⟩,
  .op ⟨some 20, none, .mv (.tmp 4)⟩,
  .op ⟨some 21, none, .bin .mul (.const (.int .i64 8)) (.tmp 20)⟩,
  .op ⟨some 22, none, .bin .rem (.tmp 21) (.const (.int .i64 51))⟩,
  .op ⟨some 6, none, .mv (.tmp 19)⟩,
  .op ⟨some 7, none, .mv (.tmp 22)⟩]
def r33_8 : Sch :=
  (.p [0] (.op ⟨some 23, none, .mv (.tmp 6)⟩)
  (.p [1] (.op ⟨some 24, none, .ia 5 1 (.tmp 3) (.tmp 23)⟩)
  (.p [3] (.op ⟨some 26, none, .mv (.tmp 5)⟩)
  (.p [4] (.op ⟨some 27, none, .conv .u64 (.tmp 26)⟩)
  (.p [5] (.op ⟨some 28, none, .mv (.tmp 7)⟩)
  (.p [6] (.op ⟨some 29, none, .bin .shl (.tmp 27) (.tmp 28)⟩)
  (.p [7] (.op ⟨some 30, none, .bin .and (.tmp 29) (.const (.int .u64 2251799813685247))⟩)
  (.q [2] (.op ⟨some 25, none, .ld 1 false (.tmp 24)⟩)
  (.p [8] (.op ⟨some 31, none, .bin .or (.tmp 25) (.tmp 30)⟩)
  (.p [9] (.op ⟨some 32, none, .ia 5 1 (.tmp 3) (.tmp 23)⟩)
  (.e 10 ⟨none, none, .st 1 (.tmp 32) (.tmp 31)⟩
  .nil)))))))))))
def r33_9 : List J := [
  .op ⟨some 33, none, .mv (.tmp 7)⟩,
  .op ⟨some 34, none, .bin .gtr (.tmp 33) (.const (.int .i64 43))⟩,
  .op ⟨some 35, none, .mv (.tmp 34)⟩,
  .lg false 35 38 none [.op ⟨some 36, (some (35, true)), .mv (.tmp 6)⟩, .op ⟨some 37, (some (35, true)), .bin .lss (.tmp 36) (.const (.int .i64 4))⟩] (.tmp 37)]
def r33_10 : Sch :=
  (.p [0] (.op ⟨some 39, none, .mv (.tmp 6)⟩)
  (.p [1] (.op ⟨some 40, none, .bin .add (.tmp 39) (.const (.int .i64 1))⟩)
  (.p [2] (.op ⟨some 41, none, .ia 5 1 (.tmp 3) (.tmp 40)⟩)
  (.p [4] (.op ⟨some 43, none, .mv (.tmp 5)⟩)
  (.p [5] (.op ⟨some 44, none, .conv .u64 (.tmp 43)⟩)
  (.p [6] (.op ⟨some 45, none, .mv (.tmp 7)⟩)
  (.p [7] (.op ⟨some 46, none, .bin .sub (.const (.int .i64 51)) (.tmp 45)⟩)
  (.p [8] (.op ⟨some 47, none, .bin .shr (.tmp 44) (.tmp 46)⟩)
  (.q [3] (.op ⟨some 42, none, .ld 1 false (.tmp 41)⟩)
  (.p [9] (.op ⟨some 48, none, .bin .or (.tmp 42) (.tmp 47)⟩)
  (.p [10] (.op ⟨some 49, none, .ia 5 1 (.tmp 3) (.tmp 40)⟩)
  (.e 11 ⟨none, none, .st 1 (.tmp 49) (.tmp 48)⟩
  .nil))))))))))))
def k33_1 : IC := (.seq (.ops r33_4) (.seq (.seq (.ops r33_5) (.cond (.tmp 14) (.ops r33_6) .skip)) (.seq (.ops r33_7) (.seq (.draw r33_8 [10]) (.seq (.ops r33_9) (.cond (.tmp 38) (.draw r33_10 [11]) .skip))))))
def r33_11 : List J := [
  .op ⟨some 50, none, .bin .add (.tmp 9) (.const (.int .i64 1))⟩,
  .op ⟨some 9, none, .mv (.tmp 50)⟩]
def l33_1 : IC := (.seq (.ops r33_3) (.seq (.cond (.tmp 10) .skip (.exit 0)) (.seq (.block 1 k33_1) (.ops r33_11))))
def k33_0 : IC := (.loop l33_1)
def r33_12 : List J := [
  .op ⟨some 51, none, .ld 5 true (.tmp 3)⟩,
  .op ⟨some 52, none, .call 70 [(.tmp 51)]⟩,
  .op ⟨none, none, .st 5 (.tmp 2) (.tmp 52)⟩]
def d33 : FnD := ⟨53, [.cell 2 5 true], (.seq (.ops r33_0) (.seq (.ops r33_1) (.seq (.seq (.ops r33_2) (.block 0 k33_0)) (.seq (.ops r33_12) .ret))))⟩
theorem ok33 : okF Tryd.prog 33 d33 = true := by kernel_rfl
/- farebox/field.Bytes -/
def r50_0 : List J := [
  .op ⟨some 1, none, .bx 58 (.tmp 0)⟩,
  .op ⟨some 2, none, .al 26 [.ints .u8 32 (List.replicate 32 0)]⟩]
def r50_1 : List J := [
  .op ⟨some 8, none, .ld 5 true (.tmp 1)⟩,
  .op ⟨some 9, none, .call 70 [(.tmp 8)]⟩,
  .op ⟨none, none, .st 5 (.tmp 1) (.tmp 9)⟩]
def r50_2 : List J := [
  .op ⟨some 3, none, .al 26 [.ints .u8 32 (List.replicate 32 0)]⟩]
def r50_3 : List J := [
  .op ⟨some 10, none, .mv (.const (.int .i64 0))⟩]
def r50_4 : List J := [
  .op ⟨some 11, none, .bin .lss (.tmp 10) (.const (.int .i64 32))⟩]
def r50_5 : List J := [
  .op ⟨some 12, none, .mv (.tmp 10)⟩,
  .op ⟨some 4, none, .mv (.tmp 12)⟩]
def r50_6 : List J := [
  .op ⟨some 13, none, .mv (.tmp 4)⟩,
  .op ⟨some 14, none, .bin .mul (.const (.int .i64 8)) (.tmp 13)⟩,
  .op ⟨some 15, none, .bin .quo (.tmp 14) (.const (.int .i64 51))⟩,
  .op ⟨some 16, none, .mv (.tmp 4)⟩,
  .op ⟨some 17, none, .bin .mul (.const (.int .i64 8)) (.tmp 16)⟩,
  .op ⟨some 18, none, .bin .rem (.tmp 17) (.const (.int .i64 51))⟩,
  .op ⟨some 5, none, .mv (.tmp 15)⟩,
  .op ⟨some 6, none, .mv (.tmp 18)⟩]
def r50_7 : List J := [
  .op ⟨some 19, none, .mv (.tmp 5)⟩,
  .op ⟨some 20, none, .ia 5 1 (.tmp 1) (.tmp 19)⟩,
  .op ⟨some 21, none, .ld 1 false (.tmp 20)⟩,
  .op ⟨some 22, none, .mv (.tmp 6)⟩,
  .op ⟨some 23, none, .bin .shr (.tmp 21) (.tmp 22)⟩,
  .op ⟨some 7, none, .mv (.tmp 23)⟩]
def r50_8 : List J := [
  .op ⟨some 24, none, .mv (.tmp 6)⟩,
  .op ⟨some 25, none, .bin .gtr (.tmp 24) (.const (.int .i64 43))⟩,
  .op ⟨some 26, none, .mv (.tmp 25)⟩,
  .lg false 26 29 none [.op ⟨some 27, (some (26, true)), .mv (.tmp 5)⟩, .op ⟨some 28, (some (26, true)), .bin .lss (.tmp 27) (.const (.int .i64 4))⟩] (.tmp 28)]
def r50_9 : List J := [
  .op ⟨some 30, none, .mv (.tmp 7)⟩,
  .op ⟨some 31, none, .mv (.tmp 5)⟩,
  .op ⟨some 32, none, .bin .add (.tmp 31) (.const (.int .i64 1))⟩,
  .op ⟨some 33, none, .ia 5 1 (.tmp 1) (.tmp 32)⟩,
  .op ⟨some 34, none, .ld 1 false (.tmp 33)⟩,
  .op ⟨some 35, none, .mv (.tmp 6)⟩,
  .op ⟨some 36, none, .bin .sub (.const (.int .i64 51)) (.tmp 35)⟩,
  .op ⟨some 37, none, .bin .shl (.tmp 34) (.tmp 36)⟩,
  .op ⟨some 38, none, .bin .or (.tmp 30) (.tmp 37)⟩,
  .op ⟨some 7, none, .mv (.tmp 38)⟩]
def r50_10 : List J := [
  .op ⟨some 39, none, .mv (.tmp 4)⟩,
  .op ⟨some 40, none, .mv (.tmp 7)⟩,
  .op ⟨some 41, none, .conv .u8 (.tmp 40)⟩,
  .op ⟨some 42, none, .ia 32 1 (.tmp 3) (.tmp 39)⟩,
  .op ⟨none, none, .st 1 (.tmp 42) (.tmp 41)⟩]
def k50_1 : IC := (.seq (.ops r50_5) (.seq (.ops r50_6) (.seq (.ops r50_7) (.seq (.seq (.ops r50_8) (.cond (.tmp 29) (.ops r50_9) .skip)) (.ops r50_10)))))
def r50_11 : List J := [
  .op ⟨some 43, none, .bin .add (.tmp 10) (.const (.int .i64 1))⟩,
  .op ⟨some 10, none, .mv (.tmp 43)⟩]
def l50_1 : IC := (.seq (.ops r50_4) (.seq (.cond (.tmp 11) .skip (.exit 0)) (.seq (.block 1 k50_1) (.ops r50_11))))
def k50_0 : IC := (.loop l50_1)
def r50_12 : List J := [
  .op ⟨some 44, none, .ld 32 true (.tmp 3)⟩,
  .op ⟨none, none, .st 32 (.tmp 2) (.tmp 44)⟩]
def d50 : FnD := ⟨45, [.cell 2 32 true], (.seq (.ops r50_0) (.seq (.ops r50_1) (.seq (.ops r50_2) (.seq (.seq (.ops r50_3) (.block 0 k50_0)) (.seq (.ops r50_12) .ret)))))⟩
theorem ok50 : okF Tryd.prog 50 d50 = true := by kernel_rfl
/- farebox/field.Canonical -/
def r32_0 : List J := [
  .op ⟨some 1, none, .bx 26 (.tmp 0)⟩,
  .op ⟨some 2, none, .mv (.const (.bool false))⟩]
def r32_1 : Sch :=
  (.q [0] (.op ⟨some 3, none, .ld 32 true (.tmp 1)⟩)
  (.p [1] (.op ⟨some 4, none, .call 33 [(.tmp 3)]⟩)
  (.p [2] (.op ⟨some 5, none, .call 50 [(.tmp 4)]⟩)
  (.q [3] (.op ⟨some 6, none, .ld 32 true (.tmp 1)⟩)
  (.p [4] (.op ⟨some 7, none, .eqa false [(.i .u8, 32)] (.tmp 5) (.tmp 6)⟩)
  (.p [5] (.op ⟨some 2, none, .mv (.tmp 7)⟩)
  .nil))))))
def d32 : FnD := ⟨8, [.tmp 2], (.seq (.ops r32_0) (.seq (.draw r32_1 []) .ret))⟩
theorem ok32 : okF Tryd.prog 32 d32 = true := by kernel_rfl
/- math/bits.Mul64 -/
def r96_0 : List J := [
  .op ⟨some 4, none, .mv (.const (.int .u64 0))⟩,
  .op ⟨some 5, none, .mv (.const (.int .u64 0))⟩]
def r96_1 : List J := [
  .op ⟨some 14, none, .mv (.tmp 0)⟩,
  .op ⟨some 15, none, .bin .and (.tmp 14) (.const (.int .u64 4294967295))⟩,
  .op ⟨some 6, none, .mv (.tmp 15)⟩]
def r96_2 : List J := [
  .op ⟨some 16, none, .mv (.tmp 0)⟩,
  .op ⟨some 17, none, .bin .shr (.tmp 16) (.const (.int .u64 32))⟩,
  .op ⟨some 7, none, .mv (.tmp 17)⟩]
def r96_3 : List J := [
  .op ⟨some 18, none, .mv (.tmp 1)⟩,
  .op ⟨some 19, none, .bin .and (.tmp 18) (.const (.int .u64 4294967295))⟩,
  .op ⟨some 8, none, .mv (.tmp 19)⟩]
def r96_4 : List J := [
  .op ⟨some 20, none, .mv (.tmp 1)⟩,
  .op ⟨some 21, none, .bin .shr (.tmp 20) (.const (.int .u64 32))⟩,
  .op ⟨some 9, none, .mv (.tmp 21)⟩]
def r96_5 : List J := [
  .op ⟨some 22, none, .mv (.tmp 6)⟩,
  .op ⟨some 23, none, .mv (.tmp 8)⟩,
  .op ⟨some 24, none, .bin .mul (.tmp 22) (.tmp 23)⟩,
  .op ⟨some 10, none, .mv (.tmp 24)⟩]
def r96_6 : List J := [
  .op ⟨some 25, none, .mv (.tmp 7)⟩,
  .op ⟨some 26, none, .mv (.tmp 8)⟩,
  .op ⟨some 27, none, .bin .mul (.tmp 25) (.tmp 26)⟩,
  .op ⟨some 28, none, .mv (.tmp 10)⟩,
  .op ⟨some 29, none, .bin .shr (.tmp 28) (.const (.int .u64 32))⟩,
  .op ⟨some 30, none, .bin .add (.tmp 27) (.tmp 29)⟩,
  .op ⟨some 11, none, .mv (.tmp 30)⟩]
def r96_7 : List J := [
  .op ⟨some 31, none, .mv (.tmp 11)⟩,
  .op ⟨some 32, none, .bin .and (.tmp 31) (.const (.int .u64 4294967295))⟩,
  .op ⟨some 12, none, .mv (.tmp 32)⟩]
def r96_8 : List J := [
  .op ⟨some 33, none, .mv (.tmp 11)⟩,
  .op ⟨some 34, none, .bin .shr (.tmp 33) (.const (.int .u64 32))⟩,
  .op ⟨some 13, none, .mv (.tmp 34)⟩]
def r96_9 : List J := [
  .op ⟨some 35, none, .mv (.tmp 12)⟩,
  .op ⟨some 36, none, .mv (.tmp 6)⟩,
  .op ⟨some 37, none, .mv (.tmp 9)⟩,
  .op ⟨some 38, none, .bin .mul (.tmp 36) (.tmp 37)⟩,
  .op ⟨some 39, none, .bin .add (.tmp 35) (.tmp 38)⟩,
  .op ⟨some 12, none, .mv (.tmp 39)⟩]
def r96_10 : List J := [
  .op ⟨some 40, none, .mv (.tmp 7)⟩,
  .op ⟨some 41, none, .mv (.tmp 9)⟩,
  .op ⟨some 42, none, .bin .mul (.tmp 40) (.tmp 41)⟩,
  .op ⟨some 43, none, .mv (.tmp 13)⟩,
  .op ⟨some 44, none, .bin .add (.tmp 42) (.tmp 43)⟩,
  .op ⟨some 45, none, .mv (.tmp 12)⟩,
  .op ⟨some 46, none, .bin .shr (.tmp 45) (.const (.int .u64 32))⟩,
  .op ⟨some 47, none, .bin .add (.tmp 44) (.tmp 46)⟩,
  .op ⟨some 4, none, .mv (.tmp 47)⟩]
def r96_11 : List J := [
  .op ⟨some 48, none, .mv (.tmp 0)⟩,
  .op ⟨some 49, none, .mv (.tmp 1)⟩,
  .op ⟨some 50, none, .bin .mul (.tmp 48) (.tmp 49)⟩,
  .op ⟨some 5, none, .mv (.tmp 50)⟩]
def d96 : FnD := ⟨51, [.tmp 4, .tmp 5], (.seq (.ops r96_0) (.seq (.ops r96_1) (.seq (.ops r96_2) (.seq (.ops r96_3) (.seq (.ops r96_4) (.seq (.ops r96_5) (.seq (.ops r96_6) (.seq (.ops r96_7) (.seq (.ops r96_8) (.seq (.ops r96_9) (.seq (.ops r96_10) (.seq (.ops r96_11) .ret))))))))))))⟩
theorem ok96 : okF Tryd.prog 96 d96 = true := by kernel_rfl
/- (*farebox/field.wide).add -/
def r77_0 : List J := [
  .op ⟨some 10, none, .mv (.tmp 1)⟩,
  .op ⟨some 11, none, .mv (.tmp 2)⟩,
  .op ⟨some 12, none, .call 96 [(.tmp 10), (.tmp 11)]⟩,
  .op ⟨some 9, none, .mv (.tmp 12)⟩,
  .op ⟨some 13, none, .ext (.tmp 9) 0⟩,
  .op ⟨some 14, none, .ext (.tmp 9) 1⟩,
  .op ⟨some 6, none, .mv (.tmp 13)⟩,
  .op ⟨some 7, none, .mv (.tmp 14)⟩]
def r77_1 : List J := [
  .op ⟨some 8, none, .mv (.const (.int .u64 0))⟩]
def r77_2 : List J := [
  .op ⟨some 16, none, .mv (.tmp 0)⟩,
  .op ⟨some 17, none, .mv (.tmp 0)⟩,
  .op ⟨some 18, none, .nilc (.tmp 17)⟩,
  .op ⟨some 19, none, .fa 1 (.tmp 18)⟩,
  .op ⟨some 20, none, .ld 1 false (.tmp 19)⟩,
  .op ⟨some 21, none, .mv (.tmp 7)⟩,
  .op ⟨some 22, none, .xcall 78 [(.tmp 20), (.tmp 21), (.const (.int .u64 0))]⟩,
  .op ⟨some 15, none, .mv (.tmp 22)⟩,
  .op ⟨some 23, none, .ext (.tmp 15) 0⟩,
  .op ⟨some 24, none, .ext (.tmp 15) 1⟩,
  .op ⟨some 25, none, .nilc (.tmp 16)⟩,
  .op ⟨some 26, none, .fa 1 (.tmp 25)⟩,
  .op ⟨none, none, .st 1 (.tmp 26) (.tmp 23)⟩,
  .op ⟨some 8, none, .mv (.tmp 24)⟩]
def r77_3 : List J := [
  .op ⟨some 28, none, .mv (.tmp 0)⟩,
  .op ⟨some 29, none, .mv (.tmp 0)⟩,
  .op ⟨some 30, none, .nilc (.tmp 29)⟩,
  .op ⟨some 31, none, .fa 0 (.tmp 30)⟩,
  .op ⟨some 32, none, .ld 1 false (.tmp 31)⟩,
  .op ⟨some 33, none, .mv (.tmp 6)⟩,
  .op ⟨some 34, none, .mv (.tmp 8)⟩,
  .op ⟨some 35, none, .xcall 78 [(.tmp 32), (.tmp 33), (.tmp 34)]⟩,
  .op ⟨some 27, none, .mv (.tmp 35)⟩,
  .op ⟨some 36, none, .ext (.tmp 27) 0⟩,
  .op ⟨some 37, none, .ext (.tmp 27) 1⟩,
  .op ⟨some 38, none, .nilc (.tmp 28)⟩,
  .op ⟨some 39, none, .fa 0 (.tmp 38)⟩,
  .op ⟨none, none, .st 1 (.tmp 39) (.tmp 36)⟩]
def d77 : FnD := ⟨40, [], (.seq (.ops r77_0) (.seq (.ops r77_1) (.seq (.ops r77_2) (.ops r77_3))))⟩
theorem ok77 : okF Tryd.prog 77 d77 = true := by kernel_rfl
/- farebox/field.Mul -/
def r39_0 : List J := [
  .op ⟨some 2, none, .bx 58 (.tmp 0)⟩,
  .op ⟨some 3, none, .bx 58 (.tmp 1)⟩,
  .op ⟨some 4, none, .al 58 [.ints .u64 5 (List.replicate 5 0)]⟩]
def r39_1 : Sch :=
  (.q [0] (.op ⟨some 19, none, .ld 5 true (.tmp 2)⟩)
  (.p [1] (.op ⟨some 20, none, .call 76 [(.tmp 19)]⟩)
  (.q [2] (.op ⟨some 21, none, .ld 5 true (.tmp 3)⟩)
  (.p [3] (.op ⟨some 22, none, .call 76 [(.tmp 21)]⟩)
  (.e 4 ⟨none, none, .st 5 (.tmp 2) (.tmp 20)⟩
  (.e 5 ⟨none, none, .st 5 (.tmp 3) (.tmp 22)⟩
  .nil))))))
def r39_2 : List J := [
  .op ⟨some 5, none, .al 129 [.ints .u64 10 (List.replicate 10 0)]⟩]
def r39_3 : List J := [
  .op ⟨some 23, none, .ld 5 true (.tmp 2)⟩,
  .op ⟨some 24, none, .mv (.const (.int .i64 0))⟩]
def r39_4 : List J := [
  .op ⟨some 25, none, .bin .lss (.tmp 24) (.const (.int .i64 5))⟩]
def r39_5 : List J := [
  .op ⟨some 26, none, .mv (.tmp 24)⟩,
  .op ⟨some 27, none, .idx 5 1 false (.tmp 23) (.tmp 24)⟩,
  .op ⟨some 6, none, .mv (.tmp 26)⟩,
  .op ⟨some 7, none, .mv (.tmp 27)⟩]
def r39_6 : List J := [
  .op ⟨some 28, none, .ld 5 true (.tmp 3)⟩,
  .op ⟨some 29, none, .mv (.const (.int .i64 0))⟩]
def r39_7 : List J := [
  .op ⟨some 30, none, .bin .lss (.tmp 29) (.const (.int .i64 5))⟩]
def r39_8 : List J := [
  .op ⟨some 31, none, .mv (.tmp 29)⟩,
  .op ⟨some 32, none, .idx 5 1 false (.tmp 28) (.tmp 29)⟩,
  .op ⟨some 8, none, .mv (.tmp 31)⟩,
  .op ⟨some 9, none, .mv (.tmp 32)⟩]
def r39_9 : List J := [
  .op ⟨some 33, none, .mv (.tmp 6)⟩,
  .op ⟨some 34, none, .mv (.tmp 8)⟩,
  .op ⟨some 35, none, .bin .add (.tmp 33) (.tmp 34)⟩,
  .op ⟨some 36, none, .bin .lss (.tmp 35) (.const (.int .i64 5))⟩]
def r39_10 : List J := [
  .op ⟨some 37, none, .mv (.tmp 6)⟩,
  .op ⟨some 38, none, .mv (.tmp 8)⟩,
  .op ⟨some 39, none, .bin .add (.tmp 37) (.tmp 38)⟩,
  .op ⟨some 40, none, .ia 5 2 (.tmp 5) (.tmp 39)⟩,
  .op ⟨some 41, none, .mv (.tmp 7)⟩,
  .op ⟨some 42, none, .mv (.tmp 9)⟩,
  .op ⟨some 43, none, .call 77 [(.tmp 40), (.tmp 41), (.tmp 42)]⟩]
def r39_11 : List J := [
  .op ⟨some 44, none, .mv (.tmp 6)⟩,
  .op ⟨some 45, none, .mv (.tmp 8)⟩,
  .op ⟨some 46, none, .bin .add (.tmp 44) (.tmp 45)⟩,
  .op ⟨some 47, none, .bin .sub (.tmp 46) (.const (.int .i64 5))⟩,
  .op ⟨some 48, none, .ia 5 2 (.tmp 5) (.tmp 47)⟩,
  .op ⟨some 49, none, .mv (.tmp 7)⟩,
  .op ⟨some 50, none, .mv (.tmp 9)⟩,
  .op ⟨some 51, none, .bin .mul (.const (.int .u64 19)) (.tmp 50)⟩,
  .op ⟨some 52, none, .call 77 [(.tmp 48), (.tmp 49), (.tmp 51)]⟩]
def k39_3 : IC := (.seq (.ops r39_8) (.seq (.ops r39_9) (.cond (.tmp 36) (.ops r39_10) (.ops r39_11))))
def r39_12 : List J := [
  .op ⟨some 53, none, .bin .add (.tmp 29) (.const (.int .i64 1))⟩,
  .op ⟨some 29, none, .mv (.tmp 53)⟩]
def l39_2 : IC := (.seq (.ops r39_7) (.seq (.cond (.tmp 30) .skip (.exit 2)) (.seq (.block 3 k39_3) (.ops r39_12))))
def k39_2 : IC := (.loop l39_2)
def k39_1 : IC := (.seq (.ops r39_5) (.seq (.ops r39_6) (.block 2 k39_2)))
def r39_13 : List J := [
  .op ⟨some 54, none, .bin .add (.tmp 24) (.const (.int .i64 1))⟩,
  .op ⟨some 24, none, .mv (.tmp 54)⟩]
def l39_1 : IC := (.seq (.ops r39_4) (.seq (.cond (.tmp 25) .skip (.exit 0)) (.seq (.block 1 k39_1) (.ops r39_13))))
def k39_0 : IC := (.loop l39_1)
def r39_14 : List J := [
  .op ⟨some 10, none, .al 58 [.ints .u64 5 (List.replicate 5 0)]⟩]
def r39_15 : List J := [
  .op ⟨some 11, none, .mv (.const (.int .u64 0))⟩]
def r39_16 : List J := [
  .op ⟨some 55, none, .ld 10 true (.tmp 5)⟩,
  .op ⟨some 56, none, .mv (.const (.int .i64 0))⟩]
def r39_17 : List J := [
  .op ⟨some 57, none, .bin .lss (.tmp 56) (.const (.int .i64 5))⟩]
def r39_18 : List J := [
  .op ⟨some 58, none, .mv (.tmp 56)⟩,
  .op ⟨some 59, none, .idx 5 2 true (.tmp 55) (.tmp 56)⟩,
  .op ⟨some 13, none, .al 128 [.ints .u64 2 (List.replicate 2 0)]⟩,
  .op ⟨some 12, none, .mv (.tmp 58)⟩,
  .op ⟨none, none, .st 2 (.tmp 13) (.tmp 59)⟩]
def r39_19 : List J := [
  .op ⟨some 61, none, .fa 1 (.tmp 13)⟩,
  .op ⟨some 62, none, .ld 1 false (.tmp 61)⟩,
  .op ⟨some 63, none, .mv (.tmp 11)⟩,
  .op ⟨some 64, none, .xcall 78 [(.tmp 62), (.tmp 63), (.const (.int .u64 0))]⟩,
  .op ⟨some 60, none, .mv (.tmp 64)⟩,
  .op ⟨some 65, none, .ext (.tmp 60) 0⟩,
  .op ⟨some 66, none, .ext (.tmp 60) 1⟩,
  .op ⟨some 14, none, .mv (.tmp 65)⟩,
  .op ⟨some 15, none, .mv (.tmp 66)⟩]
def r39_20 : List J := [
  .op ⟨some 67, none, .mv (.tmp 12)⟩,
  .op ⟨some 68, none, .mv (.tmp 14)⟩,
  .op ⟨some 69, none, .bin .and (.tmp 68) (.const (.int .u64 2251799813685247))⟩,
  .op ⟨some 70, none, .ia 5 1 (.tmp 10) (.tmp 67)⟩,
  .op ⟨none, none, .st 1 (.tmp 70) (.tmp 69)⟩]
def r39_21 : List J := [
  .op ⟨some 71, none, .fa 0 (.tmp 13)⟩,
  .op ⟨some 72, none, .ld 1 false (.tmp 71)⟩,
  .op ⟨some 73, none, .mv (.tmp 15)⟩,
  .op ⟨some 74, none, .bin .add (.tmp 72) (.tmp 73)⟩,
  .op ⟨some 75, none, .bin .shl (.tmp 74) (.const (.int .u64 13))⟩,
  .op ⟨some 76, none, .mv (.tmp 14)⟩,
  .op ⟨some 77, none, .bin .shr (.tmp 76) (.const (.int .u64 51))⟩,
  .op ⟨some 78, none, .bin .or (.tmp 75) (.tmp 77)⟩,
  .op ⟨some 11, none, .mv (.tmp 78)⟩]
def k39_5 : IC := (.seq (.ops r39_18) (.seq (.ops r39_19) (.seq (.ops r39_20) (.ops r39_21))))
def r39_22 : List J := [
  .op ⟨some 79, none, .bin .add (.tmp 56) (.const (.int .i64 1))⟩,
  .op ⟨some 56, none, .mv (.tmp 79)⟩]
def l39_3 : IC := (.seq (.ops r39_17) (.seq (.cond (.tmp 57) .skip (.exit 4)) (.seq (.block 5 k39_5) (.ops r39_22))))
def k39_4 : IC := (.loop l39_3)
def r39_23 : List J := [
  .op ⟨some 16, none, .al 128 [.ints .u64 2 (List.replicate 2 0)]⟩]
def r39_24 : List J := [
  .op ⟨some 80, none, .mv (.tmp 11)⟩,
  .op ⟨some 81, none, .call 77 [(.tmp 16), (.tmp 80), (.const (.int .u64 19))]⟩]
def r39_25 : List J := [
  .op ⟨some 83, none, .fa 1 (.tmp 16)⟩,
  .op ⟨some 84, none, .ld 1 false (.tmp 83)⟩,
  .op ⟨some 85, none, .ia 5 1 (.tmp 10) (.const (.int .i64 0))⟩,
  .op ⟨some 86, none, .ld 1 false (.tmp 85)⟩,
  .op ⟨some 87, none, .xcall 78 [(.tmp 84), (.tmp 86), (.const (.int .u64 0))]⟩,
  .op ⟨some 82, none, .mv (.tmp 87)⟩,
  .op ⟨some 88, none, .ext (.tmp 82) 0⟩,
  .op ⟨some 89, none, .ext (.tmp 82) 1⟩,
  .op ⟨some 17, none, .mv (.tmp 88)⟩,
  .op ⟨some 18, none, .mv (.tmp 89)⟩]
def r39_26 : List J := [
  .op ⟨some 90, none, .mv (.tmp 17)⟩,
  .op ⟨some 91, none, .bin .and (.tmp 90) (.const (.int .u64 2251799813685247))⟩,
  .op ⟨some 92, none, .ia 5 1 (.tmp 10) (.const (.int .i64 0))⟩,
  .op ⟨none, none, .st 1 (.tmp 92) (.tmp 91)⟩]
def r39_27 : List J := [
  .op ⟨some 93, none, .ia 5 1 (.tmp 10) (.const (.int .i64 1))⟩,
  .op ⟨some 94, none, .ld 1 false (.tmp 93)⟩,
  .op ⟨some 95, none, .fa 0 (.tmp 16)⟩,
  .op ⟨some 96, none, .ld 1 false (.tmp 95)⟩,
  .op ⟨some 97, none, .mv (.tmp 18)⟩,
  .op ⟨some 98, none, .bin .add (.tmp 96) (.tmp 97)⟩,
  .op ⟨some 99, none, .bin .shl (.tmp 98) (.const (.int .u64 13))⟩,
  .op ⟨some 100, none, .mv (.tmp 17)⟩,
  .op ⟨some 101, none, .bin .shr (.tmp 100) (.const (.int .u64 51))⟩,
  .op ⟨some 102, none, .bin .or (.tmp 99) (.tmp 101)⟩,
  .op ⟨some 103, none, .bin .add (.tmp 94) (.tmp 102)⟩,
  .op ⟨some 104, none, .ia 5 1 (.tmp 10) (.const (.int .i64 1))⟩,
  .op ⟨none, none, .st 1 (.tmp 104) (.tmp 103)⟩]
def r39_28 : List J := [
  .op ⟨some 105, none, .ld 5 true (.tmp 10)⟩,
  .op ⟨some 106, none, .call 70 [(.tmp 105)]⟩,
  .op ⟨none, none, .st 5 (.tmp 4) (.tmp 106)⟩]
def d39 : FnD := ⟨107, [.cell 4 5 true], (.seq (.ops r39_0) (.seq (.draw r39_1 [4, 5]) (.seq (.ops r39_2) (.seq (.seq (.ops r39_3) (.block 0 k39_0)) (.seq (.ops r39_14) (.seq (.ops r39_15) (.seq (.seq (.ops r39_16) (.block 4 k39_4)) (.seq (.ops r39_23) (.seq (.ops r39_24) (.seq (.ops r39_25) (.seq (.ops r39_26) (.seq (.ops r39_27) (.seq (.ops r39_28) .ret)))))))))))))⟩
theorem ok39 : okF Tryd.prog 39 d39 = true := by kernel_rfl
/- farebox/field.Square -/
def r34_0 : List J := [
  .op ⟨some 1, none, .bx 58 (.tmp 0)⟩,
  .op ⟨some 2, none, .al 58 [.ints .u64 5 (List.replicate 5 0)]⟩]
def r34_1 : List J := [
  .op ⟨some 3, none, .ld 5 true (.tmp 1)⟩,
  .op ⟨some 4, none, .ld 5 true (.tmp 1)⟩,
  .op ⟨some 5, none, .call 39 [(.tmp 3), (.tmp 4)]⟩,
  .op ⟨none, none, .st 5 (.tmp 2) (.tmp 5)⟩]
def d34 : FnD := ⟨6, [.cell 2 5 true], (.seq (.ops r34_0) (.seq (.ops r34_1) .ret))⟩
theorem ok34 : okF Tryd.prog 34 d34 = true := by kernel_rfl
/- farebox/curve.unit -/
def r35_0 : List J := [
  .op ⟨some 0, none, .al 58 [.ints .u64 5 (List.replicate 5 0)]⟩]
def r35_1 : List J := [
  .op ⟨some 1, none, .bd [.ints .u64 5 (List.replicate 5 0)] [(0, 1, (.const (.int .u64 1)))]⟩,
  .op ⟨none, none, .st 5 (.tmp 0) (.tmp 1)⟩]
def d35 : FnD := ⟨2, [.cell 0 5 true], (.seq (.ops r35_0) (.seq (.ops r35_1) .ret))⟩
theorem ok35 : okF Tryd.prog 35 d35 = true := by kernel_rfl
/- farebox/field.IsZero -/
def r41_0 : List J := [
  .op ⟨some 1, none, .bx 58 (.tmp 0)⟩,
  .op ⟨some 2, none, .mv (.const (.bool false))⟩]
def r41_1 : List J := [
  .op ⟨some 3, none, .ld 5 true (.tmp 1)⟩,
  .op ⟨some 4, none, .call 70 [(.tmp 3)]⟩,
  .op ⟨some 5, none, .bd [.ints .u64 5 (List.replicate 5 0)] []⟩,
  .op ⟨some 6, none, .eqa false [(.i .u64, 5)] (.tmp 4) (.tmp 5)⟩,
  .op ⟨some 2, none, .mv (.tmp 6)⟩]
def d41 : FnD := ⟨7, [.tmp 2], (.seq (.ops r41_0) (.seq (.ops r41_1) .ret))⟩
theorem ok41 : okF Tryd.prog 41 d41 = true := by kernel_rfl
/- farebox/field.Neg -/
def r42_0 : List J := [
  .op ⟨some 1, none, .bx 58 (.tmp 0)⟩,
  .op ⟨some 2, none, .al 58 [.ints .u64 5 (List.replicate 5 0)]⟩]
def r42_1 : List J := [
  .op ⟨some 5, none, .ld 5 true (.tmp 1)⟩,
  .op ⟨some 6, none, .call 70 [(.tmp 5)]⟩,
  .op ⟨none, none, .st 5 (.tmp 1) (.tmp 6)⟩]
def r42_2 : List J := [
  .op ⟨some 7, none, .ia 5 1 (.tmp 1) (.const (.int .i64 0))⟩,
  .op ⟨some 8, none, .ld 1 false (.tmp 7)⟩,
  .op ⟨some 9, none, .bin .sub (.const (.int .u64 4503599627370458)) (.tmp 8)⟩,
  .op ⟨some 10, none, .bd [.ints .u64 5 (List.replicate 5 0)] [(0, 1, (.tmp 9))]⟩,
  .op ⟨some 3, none, .al 58 [.ints .u64 5 (List.replicate 5 0)]⟩,
  .op ⟨none, none, .st 5 (.tmp 3) (.tmp 10)⟩]
def r42_3 : List J := [
  .op ⟨some 4, none, .mv (.const (.int .i64 1))⟩]
def r42_4 : List J := [
  .op ⟨some 11, none, .mv (.tmp 4)⟩,
  .op ⟨some 12, none, .bin .lss (.tmp 11) (.const (.int .i64 5))⟩]
def r42_6 : List J := [
  .op ⟨some 15, none, .mv (.tmp 4)⟩,
  .op ⟨some 16, none, .mv (.tmp 4)⟩,
  .op ⟨some 17, none, .ia 5 1 (.tmp 1) (.tmp 16)⟩,
  .op ⟨some 18, none, .ld 1 false (.tmp 17)⟩,
  .op ⟨some 19, none, .bin .sub (.const (.int .u64 4503599627370494)) (.tmp 18)⟩,
  .op ⟨some 20, none, .ia 5 1 (.tmp 3) (.tmp 15)⟩,
  .op ⟨none, none, .st 1 (.tmp 20) (.tmp 19)⟩]
def k42_1 : IC := (.ops r42_6)
def r42_5 : List J := [
  .op ⟨some 13, none, .mv (.tmp 4)⟩,
  .op ⟨some 14, none, .bin .add (.tmp 13) (.const (.int .i64 1))⟩,
  .op ⟨some 4, none, .mv (.tmp 14)⟩]
def l42_1 : IC := (.seq (.seq (.ops r42_4) (.cond (.tmp 12) .skip (.exit 0))) (.seq (.block 1 k42_1) (.ops r42_5)))
def k42_0 : IC := (.loop l42_1)
def r42_7 : List J := [
  .op ⟨some 21, none, .ld 5 true (.tmp 3)⟩,
  .op ⟨some 22, none, .call 70 [(.tmp 21)]⟩,
  .op ⟨none, none, .st 5 (.tmp 2) (.tmp 22)⟩]
def d42 : FnD := ⟨23, [.cell 2 5 true], (.seq (.ops r42_0) (.seq (.ops r42_1) (.seq (.ops r42_2) (.seq (.seq (.ops r42_3) (.block 0 k42_0)) (.seq (.ops r42_7) .ret)))))⟩
theorem ok42 : okF Tryd.prog 42 d42 = true := by kernel_rfl
/- farebox/field.IsOdd -/
def r51_0 : List J := [
  .op ⟨some 1, none, .bx 58 (.tmp 0)⟩,
  .op ⟨some 2, none, .mv (.const (.bool false))⟩]
def r51_1 : List J := [
  .op ⟨some 3, none, .ld 5 true (.tmp 1)⟩,
  .op ⟨some 4, none, .call 70 [(.tmp 3)]⟩,
  .op ⟨some 5, none, .idx 5 1 false (.tmp 4) (.const (.int .i64 0))⟩,
  .op ⟨some 6, none, .bin .and (.tmp 5) (.const (.int .u64 1))⟩,
  .op ⟨some 7, none, .bin .eql (.tmp 6) (.const (.int .u64 1))⟩,
  .op ⟨some 2, none, .mv (.tmp 7)⟩]
def d51 : FnD := ⟨8, [.tmp 2], (.seq (.ops r51_0) (.seq (.ops r51_1) .ret))⟩
theorem ok51 : okF Tryd.prog 51 d51 = true := by kernel_rfl
/- farebox/field.Small -/
def r74_0 : List J := [
  .op ⟨some 2, none, .al 58 [.ints .u64 5 (List.replicate 5 0)]⟩]
def r74_1 : List J := [
  .op ⟨some 3, none, .mv (.tmp 0)⟩,
  .op ⟨some 4, none, .bd [.ints .u64 5 (List.replicate 5 0)] [(0, 1, (.tmp 3))]⟩,
  .op ⟨some 5, none, .call 70 [(.tmp 4)]⟩,
  .op ⟨none, none, .st 5 (.tmp 2) (.tmp 5)⟩]
def d74 : FnD := ⟨6, [.cell 2 5 true], (.seq (.ops r74_0) (.seq (.ops r74_1) .ret))⟩
theorem ok74 : okF Tryd.prog 74 d74 = true := by kernel_rfl
/- farebox/field.Pow -/
def r71_0 : List J := [
  .op ⟨some 2, none, .bx 58 (.tmp 0)⟩,
  .op ⟨some 3, none, .bx 26 (.tmp 1)⟩,
  .op ⟨some 4, none, .al 58 [.ints .u64 5 (List.replicate 5 0)]⟩]
def r71_1 : List J := [
  .op ⟨some 7, none, .call 74 [(.const (.int .u64 1))]⟩,
  .op ⟨some 5, none, .al 58 [.ints .u64 5 (List.replicate 5 0)]⟩,
  .op ⟨none, none, .st 5 (.tmp 5) (.tmp 7)⟩]
def r71_2 : List J := [
  .op ⟨some 6, none, .mv (.const (.int .i64 255))⟩]
def r71_3 : List J := [
  .op ⟨some 8, none, .mv (.tmp 6)⟩,
  .op ⟨some 9, none, .bin .geq (.tmp 8) (.const (.int .i64 0))⟩]
def r71_5 : List J := [
  .op ⟨some 12, none, .ld 5 true (.tmp 5)⟩,
  .op ⟨some 13, none, .call 34 [(.tmp 12)]⟩,
  .op ⟨none, none, .st 5 (.tmp 5) (.tmp 13)⟩]
def r71_6 : List J := [
  .op ⟨some 14, none, .mv (.tmp 6)⟩,
  .op ⟨some 15, none, .bin .quo (.tmp 14) (.const (.int .i64 8))⟩,
  .op ⟨some 16, none, .ia 32 1 (.tmp 3) (.tmp 15)⟩,
  .op ⟨some 17, none, .ld 1 false (.tmp 16)⟩,
  .op ⟨some 18, none, .mv (.tmp 6)⟩,
  .op ⟨some 19, none, .bin .rem (.tmp 18) (.const (.int .i64 8))⟩,
  .op ⟨some 20, none, .bin .shr (.tmp 17) (.tmp 19)⟩,
  .op ⟨some 21, none, .bin .and (.tmp 20) (.const (.int .u8 1))⟩,
  .op ⟨some 22, none, .bin .eql (.tmp 21) (.const (.int .u8 1))⟩]
def r71_7 : List J := [
  .op ⟨some 23, none, .ld 5 true (.tmp 5)⟩,
  .op ⟨some 24, none, .ld 5 true (.tmp 2)⟩,
  .op ⟨some 25, none, .call 39 [(.tmp 23), (.tmp 24)]⟩,
  .op ⟨none, none, .st 5 (.tmp 5) (.tmp 25)⟩]
def k71_1 : IC := (.seq (.ops r71_5) (.seq (.ops r71_6) (.cond (.tmp 22) (.ops r71_7) .skip)))
def r71_4 : List J := [
  .op ⟨some 10, none, .mv (.tmp 6)⟩,
  .op ⟨some 11, none, .bin .sub (.tmp 10) (.const (.int .i64 1))⟩,
  .op ⟨some 6, none, .mv (.tmp 11)⟩]
def l71_1 : IC := (.seq (.seq (.ops r71_3) (.cond (.tmp 9) .skip (.exit 0))) (.seq (.block 1 k71_1) (.ops r71_4)))
def k71_0 : IC := (.loop l71_1)
def r71_8 : List J := [
  .op ⟨some 26, none, .ld 5 true (.tmp 5)⟩,
  .op ⟨none, none, .st 5 (.tmp 4) (.tmp 26)⟩]
def d71 : FnD := ⟨27, [.cell 4 5 true], (.seq (.ops r71_0) (.seq (.ops r71_1) (.seq (.seq (.ops r71_2) (.block 0 k71_0)) (.seq (.ops r71_8) .ret))))⟩
theorem ok71 : okF Tryd.prog 71 d71 = true := by kernel_rfl
/- farebox/field.power -/
def r72_0 : List J := [
  .op ⟨some 4, none, .al 26 [.ints .u8 32 (List.replicate 32 0)]⟩]
def r72_1 : List J := [
  .op ⟨some 5, none, .al 26 [.ints .u8 32 (List.replicate 32 0)]⟩]
def r72_2 : List J := [
  .op ⟨some 7, none, .mv (.const (.int .i64 0))⟩]
def r72_3 : List J := [
  .op ⟨some 8, none, .bin .lss (.tmp 7) (.const (.int .i64 32))⟩]
def r72_4 : List J := [
  .op ⟨some 9, none, .mv (.tmp 7)⟩,
  .op ⟨some 6, none, .mv (.tmp 9)⟩]
def r72_5 : List J := [
  .op ⟨some 10, none, .mv (.tmp 6)⟩,
  .op ⟨some 11, none, .ia 32 1 (.tmp 5) (.tmp 10)⟩,
  .op ⟨none, none, .st 1 (.tmp 11) (.const (.int .u8 255))⟩]
def k72_1 : IC := (.seq (.ops r72_4) (.ops r72_5))
def r72_6 : List J := [
  .op ⟨some 12, none, .bin .add (.tmp 7) (.const (.int .i64 1))⟩,
  .op ⟨some 7, none, .mv (.tmp 12)⟩]
def l72_1 : IC := (.seq (.ops r72_3) (.seq (.cond (.tmp 8) .skip (.exit 0)) (.seq (.block 1 k72_1) (.ops r72_6))))
def k72_0 : IC := (.loop l72_1)
def r72_7 : List J := [
  .op ⟨some 13, none, .mv (.tmp 0)⟩,
  .op ⟨some 14, none, .mv (.tmp 1)⟩,
  .op ⟨some 15, none, .ia 32 1 (.tmp 5) (.const (.int .i64 0))⟩,
  .op ⟨none, none, .st 1 (.tmp 15) (.tmp 13)⟩,
  .op ⟨some 16, none, .ia 32 1 (.tmp 5) (.const (.int .i64 31))⟩,
  .op ⟨none, none, .st 1 (.tmp 16) (.tmp 14)⟩]
def r72_8 : List J := [
  .op ⟨some 17, none, .ld 32 true (.tmp 5)⟩,
  .op ⟨none, none, .st 32 (.tmp 4) (.tmp 17)⟩]
def d72 : FnD := ⟨18, [.cell 4 32 true], (.seq (.ops r72_0) (.seq (.ops r72_1) (.seq (.seq (.ops r72_2) (.block 0 k72_0)) (.seq (.ops r72_7) (.seq (.ops r72_8) .ret)))))⟩
theorem ok72 : okF Tryd.prog 72 d72 = true := by kernel_rfl
/- farebox/field.Equal -/
def r73_0 : List J := [
  .op ⟨some 2, none, .bx 58 (.tmp 0)⟩,
  .op ⟨some 3, none, .bx 58 (.tmp 1)⟩,
  .op ⟨some 4, none, .mv (.const (.bool false))⟩]
def r73_1 : Sch :=
  (.q [0] (.op ⟨some 5, none, .ld 5 true (.tmp 2)⟩)
  (.p [1] (.op ⟨some 6, none, .call 70 [(.tmp 5)]⟩)
  (.q [2] (.op ⟨some 7, none, .ld 5 true (.tmp 3)⟩)
  (.p [3] (.op ⟨some 8, none, .call 70 [(.tmp 7)]⟩)
  (.p [4] (.op ⟨some 9, none, .eqa false [(.i .u64, 5)] (.tmp 6) (.tmp 8)⟩)
  (.p [5] (.op ⟨some 4, none, .mv (.tmp 9)⟩)
  .nil))))))
def d73 : FnD := ⟨10, [.tmp 4], (.seq (.ops r73_0) (.seq (.draw r73_1 []) .ret))⟩
theorem ok73 : okF Tryd.prog 73 d73 = true := by kernel_rfl
/- farebox/field.Select -/
def r75_0 : List J := [
  .op ⟨some 4, none, .bx 58 (.tmp 1)⟩,
  .op ⟨some 5, none, .bx 58 (.tmp 2)⟩,
  .op ⟨some 6, none, .al 58 [.ints .u64 5 (List.replicate 5 0)]⟩]
def r75_1 : List J := [
  .op ⟨some 7, none, .mv (.tmp 0)⟩]
def r75_2 : List J := [
  .op ⟨some 8, none, .ld 5 true (.tmp 4)⟩,
  .op ⟨some 9, none, .call 70 [(.tmp 8)]⟩,
  .op ⟨none, none, .st 5 (.tmp 6) (.tmp 9)⟩]
def r75_3 : List J := [
  .op ⟨some 10, none, .ld 5 true (.tmp 5)⟩,
  .op ⟨some 11, none, .call 70 [(.tmp 10)]⟩,
  .op ⟨none, none, .st 5 (.tmp 6) (.tmp 11)⟩]
def d75 : FnD := ⟨12, [.cell 6 5 true], (.seq (.ops r75_0) (.seq (.seq (.ops r75_1) (.cond (.tmp 7) (.seq (.ops r75_2) .ret) .skip)) (.seq (.ops r75_3) .ret)))⟩
theorem ok75 : okF Tryd.prog 75 d75 = true := by kernel_rfl
/- farebox/field.SqrtRatio -/
def r36_0 : List J := [
  .op ⟨some 2, none, .bx 58 (.tmp 0)⟩,
  .op ⟨some 3, none, .bx 58 (.tmp 1)⟩,
  .op ⟨some 4, none, .al 58 [.ints .u64 5 (List.replicate 5 0)]⟩,
  .op ⟨some 5, none, .mv (.const (.bool false))⟩]
def r36_1 : List J := [
  .op ⟨some 10, none, .ld 5 true (.tmp 3)⟩,
  .op ⟨some 11, none, .call 41 [(.tmp 10)]⟩]
def r36_2 : List J := [
  .op ⟨some 12, none, .bd [.ints .u64 5 (List.replicate 5 0)] []⟩,
  .op ⟨some 13, none, .ld 5 true (.tmp 2)⟩,
  .op ⟨some 14, none, .call 41 [(.tmp 13)]⟩,
  .op ⟨none, none, .st 5 (.tmp 4) (.tmp 12)⟩,
  .op ⟨some 5, none, .mv (.tmp 14)⟩]
def r36_3 : Sch :=
  (.q [0] (.op ⟨some 15, none, .ld 5 true (.tmp 3)⟩)
  (.p [1] (.op ⟨some 16, none, .call 34 [(.tmp 15)]⟩)
  (.q [2] (.op ⟨some 17, none, .ld 5 true (.tmp 3)⟩)
  (.p [3] (.op ⟨some 18, none, .call 39 [(.tmp 16), (.tmp 17)]⟩)
  (.e 4 ⟨some 6, none, .al 58 [.ints .u64 5 (List.replicate 5 0)]⟩
  (.e 5 ⟨none, none, .st 5 (.tmp 6) (.tmp 18)⟩
  .nil))))))
def r36_4 : Sch :=
  (.q [0] (.op ⟨some 19, none, .ld 5 true (.tmp 2)⟩)
  (.q [1] (.op ⟨some 20, none, .ld 5 true (.tmp 6)⟩)
  (.p [2] (.op ⟨some 21, none, .call 34 [(.tmp 20)]⟩)
  (.p [3] (.op ⟨some 22, none, .call 39 [(.tmp 19), (.tmp 21)]⟩)
  (.q [4] (.op ⟨some 23, none, .ld 5 true (.tmp 3)⟩)
  (.p [5] (.op ⟨some 24, none, .call 39 [(.tmp 22), (.tmp 23)]⟩)
  (.e 6 ⟨some 7, none, .al 58 [.ints .u64 5 (List.replicate 5 0)]⟩
  (.e 7 ⟨none, none, .st 5 (.tmp 7) (.tmp 24)⟩
  .nil))))))))
def r36_5 : Sch :=
  (.q [0] (.op ⟨some 25, none, .ld 5 true (.tmp 2)⟩)
  (.q [1] (.op ⟨some 26, none, .ld 5 true (.tmp 6)⟩)
  (.p [2] (.op ⟨some 27, none, .call 39 [(.tmp 25), (.tmp 26)]⟩)
  (.p [4] (.op ⟨some 29, none, .call 72 [(.const (.int .u8 253)), (.const (.int .u8 15))]⟩)
  (.q [3] (.op ⟨some 28, none, .ld 5 true (.tmp 7)⟩)
  (.p [5] (.op ⟨some 30, none, .call 71 [(.tmp 28), (.tmp 29)]⟩)
  (.p [6] (.op ⟨some 31, none, .call 39 [(.tmp 27), (.tmp 30)]⟩)
  (.e 7 ⟨some 8, none, .al 58 [.ints .u64 5 (List.replicate 5 0)]⟩
  (.e 8 ⟨none, none, .st 5 (.tmp 8) (.tmp 31)⟩
  .nil)))))))))
def r36_6 : Sch :=
  (.q [0] (.op ⟨some 32, none, .ld 5 true (.tmp 3)⟩)
  (.q [1] (.op ⟨some 33, none, .ld 5 true (.tmp 8)⟩)
  (.p [2] (.op ⟨some 34, none, .call 34 [(.tmp 33)]⟩)
  (.p [3] (.op ⟨some 35, none, .call 39 [(.tmp 32), (.tmp 34)]⟩)
  (.e 4 ⟨some 9, none, .al 58 [.ints .u64 5 (List.replicate 5 0)]⟩
  (.e 5 ⟨none, none, .st 5 (.tmp 9) (.tmp 35)⟩
  .nil))))))
def r36_8 : List J := [
  .op ⟨some 38, none, .ld 5 true (.tmp 9)⟩,
  .op ⟨some 39, none, .ld 5 true (.tmp 2)⟩,
  .op ⟨some 40, none, .call 73 [(.tmp 38), (.tmp 39)]⟩,
  .op ⟨some 37, none, .mv (.tmp 40)⟩]
def r36_9 : Sch :=
  (.q [0] (.op ⟨some 42, none, .ld 5 true (.tmp 9)⟩)
  (.q [1] (.op ⟨some 43, none, .ld 5 true (.tmp 2)⟩)
  (.p [2] (.op ⟨some 44, none, .call 42 [(.tmp 43)]⟩)
  (.p [3] (.op ⟨some 45, none, .call 73 [(.tmp 42), (.tmp 44)]⟩)
  (.p [4] (.op ⟨some 41, none, .mv (.tmp 45)⟩)
  .nil)))))
def r36_10 : Sch :=
  (.p [1] (.op ⟨some 47, none, .call 74 [(.const (.int .u64 2))]⟩)
  (.p [2] (.op ⟨some 48, none, .call 72 [(.const (.int .u8 251)), (.const (.int .u8 31))]⟩)
  (.p [3] (.op ⟨some 49, none, .call 71 [(.tmp 47), (.tmp 48)]⟩)
  (.q [0] (.op ⟨some 46, none, .ld 5 true (.tmp 8)⟩)
  (.p [4] (.op ⟨some 50, none, .call 39 [(.tmp 46), (.tmp 49)]⟩)
  (.e 5 ⟨none, none, .st 5 (.tmp 8) (.tmp 50)⟩
  .nil))))))
def r36_7 : List J := [
  .op ⟨some 36, none, .bd [.ints .u64 5 (List.replicate 5 0)] []⟩,
  .op ⟨none, none, .st 5 (.tmp 4) (.tmp 36)⟩,
  .op ⟨some 5, none, .mv (.const (.bool false))⟩]
def k36_0 : IC := (.seq (.ops r36_8) (.cond (.tmp 37) .skip (.seq (.draw r36_9 []) (.cond (.tmp 41) (.draw r36_10 [5]) (.seq (.ops r36_7) .ret)))))
def r36_11 : Sch :=
  (.q [0] (.op ⟨some 51, none, .ld 5 true (.tmp 8)⟩)
  (.p [1] (.op ⟨some 52, none, .call 51 [(.tmp 51)]⟩)
  (.q [2] (.op ⟨some 53, none, .ld 5 true (.tmp 8)⟩)
  (.p [3] (.op ⟨some 54, none, .call 42 [(.tmp 53)]⟩)
  (.q [4] (.op ⟨some 55, none, .ld 5 true (.tmp 8)⟩)
  (.p [5] (.op ⟨some 56, none, .call 75 [(.tmp 52), (.tmp 54), (.tmp 55)]⟩)
  (.e 6 ⟨none, none, .st 5 (.tmp 4) (.tmp 56)⟩
  (.p [7] (.op ⟨some 5, none, .mv (.const (.bool true))⟩)
  .nil))))))))
def d36 : FnD := ⟨57, [.cell 4 5 true, .tmp 5], (.seq (.ops r36_0) (.seq (.seq (.ops r36_1) (.cond (.tmp 11) (.seq (.ops r36_2) .ret) .skip)) (.seq (.draw r36_3 [5]) (.seq (.draw r36_4 [7]) (.seq (.draw r36_5 [8]) (.seq (.seq (.draw r36_6 [5]) (.block 0 k36_0)) (.seq (.draw r36_11 [6]) .ret)))))))⟩
theorem ok36 : okF Tryd.prog 36 d36 = true := by kernel_rfl
/- farebox/field.Add -/
def r38_0 : List J := [
  .op ⟨some 2, none, .bx 58 (.tmp 0)⟩,
  .op ⟨some 3, none, .bx 58 (.tmp 1)⟩,
  .op ⟨some 4, none, .al 58 [.ints .u64 5 (List.replicate 5 0)]⟩]
def r38_1 : Sch :=
  (.q [0] (.op ⟨some 6, none, .ld 5 true (.tmp 2)⟩)
  (.p [1] (.op ⟨some 7, none, .call 76 [(.tmp 6)]⟩)
  (.q [2] (.op ⟨some 8, none, .ld 5 true (.tmp 3)⟩)
  (.p [3] (.op ⟨some 9, none, .call 76 [(.tmp 8)]⟩)
  (.e 4 ⟨none, none, .st 5 (.tmp 2) (.tmp 7)⟩
  (.e 5 ⟨none, none, .st 5 (.tmp 3) (.tmp 9)⟩
  .nil))))))
def r38_2 : List J := [
  .op ⟨some 10, none, .mv (.const (.int .i64 0))⟩]
def r38_3 : List J := [
  .op ⟨some 11, none, .bin .lss (.tmp 10) (.const (.int .i64 5))⟩]
def r38_4 : List J := [
  .op ⟨some 12, none, .mv (.tmp 10)⟩,
  .op ⟨some 5, none, .mv (.tmp 12)⟩]
def r38_5 : Sch :=
  (.p [0] (.op ⟨some 13, none, .mv (.tmp 5)⟩)
  (.p [1] (.op ⟨some 14, none, .ia 5 1 (.tmp 2) (.tmp 13)⟩)
  (.p [3] (.op ⟨some 16, none, .mv (.tmp 5)⟩)
  (.p [4] (.op ⟨some 17, none, .ia 5 1 (.tmp 3) (.tmp 16)⟩)
  (.q [2] (.op ⟨some 15, none, .ld 1 false (.tmp 14)⟩)
  (.q [5] (.op ⟨some 18, none, .ld 1 false (.tmp 17)⟩)
  (.p [6] (.op ⟨some 19, none, .bin .add (.tmp 15) (.tmp 18)⟩)
  (.p [7] (.op ⟨some 20, none, .ia 5 1 (.tmp 2) (.tmp 13)⟩)
  (.e 8 ⟨none, none, .st 1 (.tmp 20) (.tmp 19)⟩
  .nil)))))))))
def k38_1 : IC := (.seq (.ops r38_4) (.draw r38_5 [8]))
def r38_6 : List J := [
  .op ⟨some 21, none, .bin .add (.tmp 10) (.const (.int .i64 1))⟩,
  .op ⟨some 10, none, .mv (.tmp 21)⟩]
def l38_1 : IC := (.seq (.ops r38_3) (.seq (.cond (.tmp 11) .skip (.exit 0)) (.seq (.block 1 k38_1) (.ops r38_6))))
def k38_0 : IC := (.loop l38_1)
def r38_7 : List J := [
  .op ⟨some 22, none, .ld 5 true (.tmp 2)⟩,
  .op ⟨some 23, none, .call 70 [(.tmp 22)]⟩,
  .op ⟨none, none, .st 5 (.tmp 4) (.tmp 23)⟩]
def d38 : FnD := ⟨24, [.cell 4 5 true], (.seq (.ops r38_0) (.seq (.draw r38_1 [4, 5]) (.seq (.seq (.ops r38_2) (.block 0 k38_0)) (.seq (.ops r38_7) .ret))))⟩
theorem ok38 : okF Tryd.prog 38 d38 = true := by kernel_rfl
/- farebox/field.Sub -/
def r37_0 : List J := [
  .op ⟨some 2, none, .bx 58 (.tmp 0)⟩,
  .op ⟨some 3, none, .bx 58 (.tmp 1)⟩,
  .op ⟨some 4, none, .al 58 [.ints .u64 5 (List.replicate 5 0)]⟩]
def r37_1 : Sch :=
  (.q [0] (.op ⟨some 5, none, .ld 5 true (.tmp 2)⟩)
  (.q [1] (.op ⟨some 6, none, .ld 5 true (.tmp 3)⟩)
  (.p [2] (.op ⟨some 7, none, .call 42 [(.tmp 6)]⟩)
  (.p [3] (.op ⟨some 8, none, .call 38 [(.tmp 5), (.tmp 7)]⟩)
  (.e 4 ⟨none, none, .st 5 (.tmp 4) (.tmp 8)⟩
  .nil)))))
def d37 : FnD := ⟨9, [.cell 4 5 true], (.seq (.ops r37_0) (.seq (.draw r37_1 [4]) .ret))⟩
theorem ok37 : okF Tryd.prog 37 d37 = true := by kernel_rfl
/- farebox/curve.limbs -/
def r40_0 : List J := [
  .op ⟨some 0, none, .al 58 [.ints .u64 5 (List.replicate 5 0)]⟩]
def r40_1 : List J := [
  .op ⟨some 1, none, .bd [.ints .u64 5 (List.replicate 5 0)] [(0, 1, (.const (.int .u64 929955233495203))), (1, 1, (.const (.int .u64 466365720129213))), (2, 1, (.const (.int .u64 1662059464998953))), (3, 1, (.const (.int .u64 2033849074728123))), (4, 1, (.const (.int .u64 1442794654840575)))]⟩,
  .op ⟨none, none, .st 5 (.tmp 0) (.tmp 1)⟩]
def d40 : FnD := ⟨2, [.cell 0 5 true], (.seq (.ops r40_0) (.seq (.ops r40_1) .ret))⟩
theorem ok40 : okF Tryd.prog 40 d40 = true := by kernel_rfl
/- farebox/curve.Decode -/
def r18_0 : List J := [
  .op ⟨some 1, none, .bx 27 (.tmp 0)⟩,
  .op ⟨some 2, none, .al 60 [.ints .u64 5 (List.replicate 5 0), .ints .u64 5 (List.replicate 5 0), .ints .u64 5 (List.replicate 5 0), .ints .u64 5 (List.replicate 5 0)]⟩,
  .op ⟨some 3, none, .mv (.const (.bool false))⟩]
def r18_1 : List J := [
  .op ⟨some 10, none, .ia 32 1 (.tmp 1) (.const (.int .i64 31))⟩,
  .op ⟨some 11, none, .ld 1 false (.tmp 10)⟩,
  .op ⟨some 12, none, .bin .shr (.tmp 11) (.const (.int .u64 7))⟩,
  .op ⟨some 13, none, .bin .eql (.tmp 12) (.const (.int .u8 1))⟩,
  .op ⟨some 4, none, .mv (.tmp 13)⟩]
def r18_2 : List J := [
  .op ⟨some 14, none, .ia 32 1 (.tmp 1) (.const (.int .i64 31))⟩,
  .op ⟨some 15, none, .ld 1 false (.tmp 14)⟩,
  .op ⟨some 16, none, .bin .and (.tmp 15) (.const (.int .u8 127))⟩,
  .op ⟨some 17, none, .ia 32 1 (.tmp 1) (.const (.int .i64 31))⟩,
  .op ⟨none, none, .st 1 (.tmp 17) (.tmp 16)⟩]
def r18_3 : List J := [
  .op ⟨some 18, none, .ld 32 true (.tmp 1)⟩,
  .op ⟨some 19, none, .call 32 [(.tmp 18)]⟩,
  .op ⟨some 20, none, .un .not (.tmp 19)⟩]
def r18_4 : List J := [
  .op ⟨some 21, none, .bd [.ints .u64 5 (List.replicate 5 0), .ints .u64 5 (List.replicate 5 0), .ints .u64 5 (List.replicate 5 0), .ints .u64 5 (List.replicate 5 0)] []⟩,
  .op ⟨none, none, .st 20 (.tmp 2) (.tmp 21)⟩,
  .op ⟨some 3, none, .mv (.const (.bool false))⟩]
def r18_5 : List J := [
  .op ⟨some 22, none, .ld 32 true (.tmp 1)⟩,
  .op ⟨some 23, none, .call 33 [(.tmp 22)]⟩,
  .op ⟨some 5, none, .al 58 [.ints .u64 5 (List.replicate 5 0)]⟩,
  .op ⟨none, none, .st 5 (.tmp 5) (.tmp 23)⟩]
def r18_6 : List J := [
  .op ⟨some 24, none, .ld 5 true (.tmp 5)⟩,
  .op ⟨some 25, none, .call 34 [(.tmp 24)]⟩,
  .op ⟨some 6, none, .al 58 [.ints .u64 5 (List.replicate 5 0)]⟩,
  .op ⟨none, none, .st 5 (.tmp 6) (.tmp 25)⟩]
def r18_7 : List J := [
  .op ⟨some 26, none, .call 35 []⟩,
  .op ⟨some 7, none, .al 58 [.ints .u64 5 (List.replicate 5 0)]⟩,
  .op ⟨none, none, .st 5 (.tmp 7) (.tmp 26)⟩]
def r18_8 : Sch :=
  (.q [0] (.op ⟨some 28, none, .ld 5 true (.tmp 6)⟩)
  (.q [1] (.op ⟨some 29, none, .ld 5 true (.tmp 7)⟩)
  (.p [2] (.op ⟨some 30, none, .call 37 [(.tmp 28), (.tmp 29)]⟩)
  (.p [3] (.op ⟨some 31, none, .call 40 []⟩)
  (.q [4] (.op ⟨some 32, none, .ld 5 true (.tmp 6)⟩)
  (.p [5] (.op ⟨some 33, none, .call 39 [(.tmp 31), (.tmp 32)]⟩)
  (.q [6] (.op ⟨some 34, none, .ld 5 true (.tmp 7)⟩)
  (.p [7] (.op ⟨some 35, none, .call 38 [(.tmp 33), (.tmp 34)]⟩)
  (.p [8] (.op ⟨some 36, none, .call 36 [(.tmp 30), (.tmp 35)]⟩)
  (.p [9] (.op ⟨some 27, none, .mv (.tmp 36)⟩)
  (.p [10] (.op ⟨some 37, none, .ext (.tmp 27) 0⟩)
  (.p [11] (.op ⟨some 38, none, .ext (.tmp 27) 1⟩)
  (.e 12 ⟨some 8, none, .al 58 [.ints .u64 5 (List.replicate 5 0)]⟩
  (.e 13 ⟨none, none, .st 5 (.tmp 8) (.tmp 37)⟩
  (.p [14] (.op ⟨some 9, none, .mv (.tmp 38)⟩)
  .nil)))))))))))))))
def r18_9 : List J := [
  .op ⟨some 39, none, .mv (.tmp 9)⟩,
  .op ⟨some 40, none, .un .not (.tmp 39)⟩,
  .op ⟨some 41, none, .mv (.tmp 40)⟩,
  .lg true 41 47 none [.op ⟨some 42, (some (41, false)), .mv (.tmp 4)⟩, .op ⟨some 43, (some (41, false)), .mv (.tmp 42)⟩, .lg false 43 46 (some (41, false)) [.op ⟨some 44, (some (43, true)), .ld 5 true (.tmp 8)⟩, .op ⟨some 45, (some (43, true)), .call 41 [(.tmp 44)]⟩] (.tmp 45)] (.tmp 46)]
def r18_10 : List J := [
  .op ⟨some 48, none, .bd [.ints .u64 5 (List.replicate 5 0), .ints .u64 5 (List.replicate 5 0), .ints .u64 5 (List.replicate 5 0), .ints .u64 5 (List.replicate 5 0)] []⟩,
  .op ⟨none, none, .st 20 (.tmp 2) (.tmp 48)⟩,
  .op ⟨some 3, none, .mv (.const (.bool false))⟩]
def r18_11 : List J := [
  .op ⟨some 49, none, .mv (.tmp 4)⟩]
def r18_12 : List J := [
  .op ⟨some 50, none, .ld 5 true (.tmp 8)⟩,
  .op ⟨some 51, none, .call 42 [(.tmp 50)]⟩,
  .op ⟨none, none, .st 5 (.tmp 8) (.tmp 51)⟩]
def r18_13 : Sch :=
  (.q [0] (.op ⟨some 52, none, .ld 5 true (.tmp 8)⟩)
  (.q [1] (.op ⟨some 53, none, .ld 5 true (.tmp 5)⟩)
  (.q [2] (.op ⟨some 54, none, .ld 5 true (.tmp 7)⟩)
  (.q [3] (.op ⟨some 55, none, .ld 5 true (.tmp 8)⟩)
  (.q [4] (.op ⟨some 56, none, .ld 5 true (.tmp 5)⟩)
  (.p [5] (.op ⟨some 57, none, .call 39 [(.tmp 55), (.tmp 56)]⟩)
  (.p [6] (.op ⟨some 58, none, .bd [.ints .u64 5 (List.replicate 5 0), .ints .u64 5 (List.replicate 5 0), .ints .u64 5 (List.replicate 5 0), .ints .u64 5 (List.replicate 5 0)] [(0, 5, (.tmp 52)), (5, 5, (.tmp 53)), (10, 5, (.tmp 54)), (15, 5, (.tmp 57))]⟩)
  (.e 7 ⟨none, none, .st 20 (.tmp 2) (.tmp 58)⟩
  (.p [8] (.op ⟨some 3, none, .mv (.const (.bool true))⟩)
  .nil)))))))))
def d18 : FnD := ⟨59, [.cell 2 20 true, .tmp 3], (.seq (.ops r18_0) (.seq (.ops r18_1) (.seq (.ops r18_2) (.seq (.seq (.ops r18_3) (.cond (.tmp 20) (.seq (.ops r18_4) .ret) .skip)) (.seq (.ops r18_5) (.seq (.ops r18_6) (.seq (.ops r18_7) (.seq (.draw r18_8 [13]) (.seq (.seq (.ops r18_9) (.cond (.tmp 47) (.seq (.ops r18_10) .ret) .skip)) (.seq (.seq (.ops r18_11) (.cond (.tmp 49) (.ops r18_12) .skip)) (.seq (.draw r18_13 [7]) .ret)))))))))))⟩
theorem ok18 : okF Tryd.prog 18 d18 = true := by kernel_rfl
/- farebox/scalar.minus -/
def r43_0 : List J := [
  .op ⟨some 2, none, .bx 93 (.tmp 0)⟩,
  .op ⟨some 3, none, .bx 93 (.tmp 1)⟩,
  .op ⟨some 4, none, .al 93 [.ints .u64 4 (List.replicate 4 0)]⟩,
  .op ⟨some 5, none, .mv (.const (.int .u64 0))⟩]
def r43_1 : List J := [
  .op ⟨some 6, none, .mv (.const (.int .u64 0))⟩]
def r43_2 : List J := [
  .op ⟨some 8, none, .mv (.const (.int .i64 0))⟩]
def r43_3 : List J := [
  .op ⟨some 9, none, .bin .lss (.tmp 8) (.const (.int .i64 4))⟩]
def r43_4 : List J := [
  .op ⟨some 10, none, .mv (.tmp 8)⟩,
  .op ⟨some 7, none, .mv (.tmp 10)⟩]
def r43_5 : Sch :=
  (.p [0] (.op ⟨some 12, none, .mv (.tmp 7)⟩)
  (.p [1] (.op ⟨some 13, none, .mv (.tmp 7)⟩)
  (.p [2] (.op ⟨some 14, none, .ia 4 1 (.tmp 2) (.tmp 13)⟩)
  (.p [4] (.op ⟨some 16, none, .mv (.tmp 7)⟩)
  (.p [5] (.op ⟨some 17, none, .ia 4 1 (.tmp 3) (.tmp 16)⟩)
  (.p [7] (.op ⟨some 19, none, .mv (.tmp 6)⟩)
  (.q [3] (.op ⟨some 15, none, .ld 1 false (.tmp 14)⟩)
  (.q [6] (.op ⟨some 18, none, .ld 1 false (.tmp 17)⟩)
  (.p [8] (.op ⟨some 20, none, .xcall 79 [(.tmp 15), (.tmp 18), (.tmp 19)]⟩)
  (.p [9] (.op ⟨some 11, none, .mv (.tmp 20)⟩)
  (.p [10] (.op ⟨some 21, none, .ext (.tmp 11) 0⟩)
  (.p [11] (.op ⟨some 22, none, .ext (.tmp 11) 1⟩)
  (.p [12] (.op ⟨some 23, none, .ia 4 1 (.tmp 2) (.tmp 12)⟩)
  (.e 13 ⟨none, none, .st 1 (.tmp 23) (.tmp 21)⟩
  (.p [14] (.op ⟨some 6, none, .mv (.tmp 22)⟩)
  .nil)))))))))))))))
def k43_1 : IC := (.seq (.ops r43_4) (.draw r43_5 [13]))
def r43_6 : List J := [
  .op ⟨some 24, none, .bin .add (.tmp 8) (.const (.int .i64 1))⟩,
  .op ⟨some 8, none, .mv (.tmp 24)⟩]
def l43_1 : IC := (.seq (.ops r43_3) (.seq (.cond (.tmp 9) .skip (.exit 0)) (.seq (.block 1 k43_1) (.ops r43_6))))
def k43_0 : IC := (.loop l43_1)
def r43_7 : List J := [
  .op ⟨some 25, none, .ld 4 true (.tmp 2)⟩,
  .op ⟨some 26, none, .mv (.tmp 6)⟩,
  .op ⟨none, none, .st 4 (.tmp 4) (.tmp 25)⟩,
  .op ⟨some 5, none, .mv (.tmp 26)⟩]
def d43 : FnD := ⟨27, [.cell 4 4 true, .tmp 5], (.seq (.ops r43_0) (.seq (.ops r43_1) (.seq (.seq (.ops r43_2) (.block 0 k43_0)) (.seq (.ops r43_7) .ret))))⟩
theorem ok43 : okF Tryd.prog 43 d43 = true := by kernel_rfl
/- farebox/bits.width[uint64] -/
def r103_0 : List J := [
  .op ⟨some 0, none, .mv (.const (.int .i64 0))⟩]
def r103_1 : List J := [
  .op ⟨some 1, none, .mv (.const (.int .i64 0))⟩]
def r103_2 : List J := [
  .op ⟨some 3, none, .conv .u64 (.const (.int .i64 0))⟩,
  .op ⟨some 4, none, .un .xor (.tmp 3)⟩,
  .op ⟨some 2, none, .mv (.tmp 4)⟩]
def r103_3 : List J := [
  .op ⟨some 5, none, .mv (.tmp 2)⟩,
  .op ⟨some 6, none, .bin .neq (.tmp 5) (.const (.int .u64 0))⟩]
def r103_5 : List J := [
  .op ⟨some 9, none, .mv (.tmp 1)⟩,
  .op ⟨some 10, none, .bin .add (.tmp 9) (.const (.int .i64 1))⟩,
  .op ⟨some 1, none, .mv (.tmp 10)⟩]
def k103_1 : IC := (.ops r103_5)
def r103_4 : List J := [
  .op ⟨some 7, none, .mv (.tmp 2)⟩,
  .op ⟨some 8, none, .bin .shr (.tmp 7) (.const (.int .u64 1))⟩,
  .op ⟨some 2, none, .mv (.tmp 8)⟩]
def l103_1 : IC := (.seq (.seq (.ops r103_3) (.cond (.tmp 6) .skip (.exit 0))) (.seq (.block 1 k103_1) (.ops r103_4)))
def k103_0 : IC := (.loop l103_1)
def r103_6 : List J := [
  .op ⟨some 11, none, .mv (.tmp 1)⟩,
  .op ⟨some 0, none, .mv (.tmp 11)⟩]
def d103 : FnD := ⟨12, [.tmp 0], (.seq (.ops r103_0) (.seq (.ops r103_1) (.seq (.seq (.ops r103_2) (.block 0 k103_0)) (.seq (.ops r103_6) .ret))))⟩
theorem ok103 : okF Tryd.prog 103 d103 = true := by kernel_rfl
/- farebox/bits.piece[uint64] -/
def r97_0 : List J := [
  .op ⟨some 4, none, .mv (.const (.slice none 0 0))⟩]
def r97_1 : List J := [
  .op ⟨some 6, none, .call 103 []⟩,
  .op ⟨some 7, none, .bin .quo (.tmp 6) (.const (.int .i64 8))⟩,
  .op ⟨some 5, none, .mv (.tmp 7)⟩]
def r97_2 : List J := [
  .op ⟨some 8, none, .mv (.tmp 1)⟩,
  .op ⟨some 9, none, .bin .lss (.tmp 8) (.const (.int .i64 0))⟩,
  .op ⟨some 10, none, .mv (.tmp 9)⟩,
  .lg true 10 17 none [.op ⟨some 11, (some (10, false)), .mv (.tmp 1)⟩, .op ⟨some 12, (some (10, false)), .mv (.tmp 0)⟩, .op ⟨some 13, (some (10, false)), .len (.tmp 12)⟩, .op ⟨some 14, (some (10, false)), .mv (.tmp 5)⟩, .op ⟨some 15, (some (10, false)), .bin .sub (.tmp 13) (.tmp 14)⟩, .op ⟨some 16, (some (10, false)), .bin .gtr (.tmp 11) (.tmp 15)⟩] (.tmp 16)]
def r97_3 : List J := [
  .op ⟨some 4, none, .mv (.const (.slice none 0 0))⟩]
def r97_4 : List J := [
  .op ⟨some 18, none, .mv (.tmp 0)⟩,
  .op ⟨some 19, none, .mv (.tmp 1)⟩,
  .op ⟨some 20, none, .mv (.tmp 1)⟩,
  .op ⟨some 21, none, .mv (.tmp 5)⟩,
  .op ⟨some 22, none, .bin .add (.tmp 20) (.tmp 21)⟩,
  .op ⟨some 23, none, .sls 1 (.tmp 18) (some (.tmp 19)) (some (.tmp 22)) none⟩,
  .op ⟨some 4, none, .mv (.tmp 23)⟩]
def d97 : FnD := ⟨24, [.tmp 4], (.seq (.ops r97_0) (.seq (.ops r97_1) (.seq (.seq (.ops r97_2) (.cond (.tmp 17) (.seq (.ops r97_3) .ret) .skip)) (.seq (.ops r97_4) .ret))))⟩
theorem ok97 : okF Tryd.prog 97 d97 = true := by kernel_rfl
/- farebox/bits.LoadLE[uint64] -/
def r80_0 : List J := [
  .op ⟨some 4, none, .mv (.const (.int .u64 0))⟩,
  .op ⟨some 5, none, .mv (.const (.bool false))⟩]
def r80_1 : List J := [
  .op ⟨some 6, none, .mv (.const (.int .u64 0))⟩]
def r80_2 : List J := [
  .op ⟨some 10, none, .mv (.tmp 0)⟩,
  .op ⟨some 11, none, .mv (.tmp 1)⟩,
  .op ⟨some 12, none, .call 97 [(.tmp 10), (.tmp 11)]⟩,
  .op ⟨some 7, none, .mv (.tmp 12)⟩]
def r80_3 : List J := [
  .op ⟨some 13, none, .mv (.tmp 7)⟩,
  .op ⟨some 14, none, .len (.tmp 13)⟩,
  .op ⟨some 15, none, .mv (.const (.int .i64 0))⟩]
def r80_4 : List J := [
  .op ⟨some 16, none, .bin .lss (.tmp 15) (.tmp 14)⟩]
def r80_5 : List J := [
  .op ⟨some 17, none, .mv (.tmp 15)⟩,
  .op ⟨some 18, none, .ias 1 (.tmp 13) (.tmp 15)⟩,
  .op ⟨some 19, none, .ld 1 false (.tmp 18)⟩,
  .op ⟨some 8, none, .mv (.tmp 17)⟩,
  .op ⟨some 9, none, .mv (.tmp 19)⟩]
def r80_6 : List J := [
  .op ⟨some 20, none, .mv (.tmp 6)⟩,
  .op ⟨some 21, none, .mv (.tmp 9)⟩,
  .op ⟨some 22, none, .conv .u64 (.tmp 21)⟩,
  .op ⟨some 23, none, .mv (.tmp 8)⟩,
  .op ⟨some 24, none, .bin .mul (.const (.int .i64 8)) (.tmp 23)⟩,
  .op ⟨some 25, none, .bin .shl (.tmp 22) (.tmp 24)⟩,
  .op ⟨some 26, none, .bin .or (.tmp 20) (.tmp 25)⟩,
  .op ⟨some 6, none, .mv (.tmp 26)⟩]
def k80_1 : IC := (.seq (.ops r80_5) (.ops r80_6))
def r80_7 : List J := [
  .op ⟨some 27, none, .bin .add (.tmp 15) (.const (.int .i64 1))⟩,
  .op ⟨some 15, none, .mv (.tmp 27)⟩]
def l80_1 : IC := (.seq (.ops r80_4) (.seq (.cond (.tmp 16) .skip (.exit 0)) (.seq (.block 1 k80_1) (.ops r80_7))))
def k80_0 : IC := (.loop l80_1)
def r80_8 : List J := [
  .op ⟨some 28, none, .mv (.tmp 6)⟩,
  .op ⟨some 29, none, .mv (.tmp 7)⟩,
  .op ⟨some 30, none, .isn true (.tmp 29)⟩,
  .op ⟨some 4, none, .mv (.tmp 28)⟩,
  .op ⟨some 5, none, .mv (.tmp 30)⟩]
def d80 : FnD := ⟨31, [.tmp 4, .tmp 5], (.seq (.ops r80_0) (.seq (.ops r80_1) (.seq (.ops r80_2) (.seq (.seq (.ops r80_3) (.block 0 k80_0)) (.seq (.ops r80_8) .ret)))))⟩
theorem ok80 : okF Tryd.prog 80 d80 = true := by kernel_rfl
/- farebox/scalar.load -/
def r44_0 : List J := [
  .op ⟨some 1, none, .bx 63 (.tmp 0)⟩,
  .op ⟨some 2, none, .al 93 [.ints .u64 4 (List.replicate 4 0)]⟩]
def r44_1 : List J := [
  .op ⟨some 3, none, .al 93 [.ints .u64 4 (List.replicate 4 0)]⟩]
def r44_2 : List J := [
  .op ⟨some 5, none, .mv (.const (.int .i64 0))⟩]
def r44_3 : List J := [
  .op ⟨some 6, none, .bin .lss (.tmp 5) (.const (.int .i64 4))⟩]
def r44_4 : List J := [
  .op ⟨some 7, none, .mv (.tmp 5)⟩,
  .op ⟨some 4, none, .mv (.tmp 7)⟩]
def r44_5 : List J := [
  .op ⟨some 9, none, .mv (.tmp 4)⟩,
  .op ⟨some 10, none, .sla 32 1 (.tmp 1) none none none⟩,
  .op ⟨some 11, none, .mv (.tmp 4)⟩,
  .op ⟨some 12, none, .bin .mul (.const (.int .i64 8)) (.tmp 11)⟩,
  .op ⟨some 13, none, .call 80 [(.tmp 10), (.tmp 12)]⟩,
  .op ⟨some 8, none, .mv (.tmp 13)⟩,
  .op ⟨some 14, none, .ext (.tmp 8) 0⟩,
  .op ⟨some 15, none, .ext (.tmp 8) 1⟩,
  .op ⟨some 16, none, .ia 4 1 (.tmp 3) (.tmp 9)⟩,
  .op ⟨none, none, .st 1 (.tmp 16) (.tmp 14)⟩]
def k44_1 : IC := (.seq (.ops r44_4) (.ops r44_5))
def r44_6 : List J := [
  .op ⟨some 17, none, .bin .add (.tmp 5) (.const (.int .i64 1))⟩,
  .op ⟨some 5, none, .mv (.tmp 17)⟩]
def l44_1 : IC := (.seq (.ops r44_3) (.seq (.cond (.tmp 6) .skip (.exit 0)) (.seq (.block 1 k44_1) (.ops r44_6))))
def k44_0 : IC := (.loop l44_1)
def r44_7 : List J := [
  .op ⟨some 18, none, .ld 4 true (.tmp 3)⟩,
  .op ⟨none, none, .st 4 (.tmp 2) (.tmp 18)⟩]
def d44 : FnD := ⟨19, [.cell 2 4 true], (.seq (.ops r44_0) (.seq (.ops r44_1) (.seq (.seq (.ops r44_2) (.block 0 k44_0)) (.seq (.ops r44_7) .ret))))⟩
theorem ok44 : okF Tryd.prog 44 d44 = true := by kernel_rfl
/- farebox/scalar.Canonical -/
def r19_0 : List J := [
  .op ⟨some 1, none, .bx 63 (.tmp 0)⟩,
  .op ⟨some 2, none, .mv (.const (.bool false))⟩]
def r19_1 : Sch :=
  (.q [0] (.op ⟨some 6, none, .ld 32 true (.tmp 1)⟩)
  (.p [1] (.op ⟨some 7, none, .call 44 [(.tmp 6)]⟩)
  (.q [2] (.op ⟨some 8, none, .ld 4 true (.global 0)⟩)
  (.p [3] (.op ⟨some 9, none, .call 43 [(.tmp 7), (.tmp 8)]⟩)
  (.p [4] (.op ⟨some 5, none, .mv (.tmp 9)⟩)
  (.p [5] (.op ⟨some 10, none, .ext (.tmp 5) 0⟩)
  (.p [6] (.op ⟨some 11, none, .ext (.tmp 5) 1⟩)
  (.e 7 ⟨some 3, none, .al 93 [.ints .u64 4 (List.replicate 4 0)]⟩
  (.e 8 ⟨none, none, .st 4 (.tmp 3) (.tmp 10)⟩
  (.p [9] (.op ⟨some 4, none, .mv (.tmp 11)⟩)
  .nil))))))))))
def r19_2 : List J := [
  .op ⟨some 12, none, .mv (.tmp 4)⟩,
  .op ⟨some 13, none, .bin .eql (.tmp 12) (.const (.int .u64 1))⟩,
  .op ⟨some 2, none, .mv (.tmp 13)⟩]
def d19 : FnD := ⟨14, [.tmp 2], (.seq (.ops r19_0) (.seq (.draw r19_1 [8]) (.seq (.ops r19_2) .ret)))⟩
theorem ok19 : okF Tryd.prog 19 d19 = true := by kernel_rfl
/- farebox/sha512.New -/
def r45_0 : List J := [
  .op ⟨some 0, none, .mv (.const (.pointer none))⟩]
def r45_1 : List J := [
  .op ⟨some 1, none, .ld 8 true (.global 1)⟩,
  .op ⟨some 2, none, .bd [.ints .u64 8 (List.replicate 8 0), .ints .u8 128 (List.replicate 128 0), .one (.int .i64 0), .one (.int .u64 0)] [(0, 8, (.tmp 1))]⟩,
  .op ⟨some 3, none, .bx 138 (.tmp 2)⟩,
  .op ⟨some 0, none, .mv (.tmp 3)⟩]
def d45 : FnD := ⟨4, [.tmp 0], (.seq (.ops r45_0) (.seq (.ops r45_1) .ret))⟩
theorem ok45 : okF Tryd.prog 45 d45 = true := by kernel_rfl
/- farebox/bits.LoadBE[uint64] -/
def r105_0 : List J := [
  .op ⟨some 4, none, .mv (.const (.int .u64 0))⟩,
  .op ⟨some 5, none, .mv (.const (.bool false))⟩]
def r105_1 : List J := [
  .op ⟨some 6, none, .mv (.const (.int .u64 0))⟩]
def r105_2 : List J := [
  .op ⟨some 10, none, .mv (.tmp 0)⟩,
  .op ⟨some 11, none, .mv (.tmp 1)⟩,
  .op ⟨some 12, none, .call 97 [(.tmp 10), (.tmp 11)]⟩,
  .op ⟨some 7, none, .mv (.tmp 12)⟩]
def r105_3 : List J := [
  .op ⟨some 13, none, .mv (.tmp 7)⟩,
  .op ⟨some 14, none, .len (.tmp 13)⟩,
  .op ⟨some 15, none, .mv (.const (.int .i64 0))⟩]
def r105_4 : List J := [
  .op ⟨some 16, none, .bin .lss (.tmp 15) (.tmp 14)⟩]
def r105_5 : List J := [
  .op ⟨some 17, none, .ias 1 (.tmp 13) (.tmp 15)⟩,
  .op ⟨some 18, none, .ld 1 false (.tmp 17)⟩,
  .op ⟨some 9, none, .mv (.tmp 18)⟩]
def r105_6 : List J := [
  .op ⟨some 19, none, .mv (.tmp 6)⟩,
  .op ⟨some 20, none, .bin .shl (.tmp 19) (.const (.int .u64 8))⟩,
  .op ⟨some 21, none, .mv (.tmp 9)⟩,
  .op ⟨some 22, none, .conv .u64 (.tmp 21)⟩,
  .op ⟨some 23, none, .bin .or (.tmp 20) (.tmp 22)⟩,
  .op ⟨some 6, none, .mv (.tmp 23)⟩]
def k105_1 : IC := (.seq (.ops r105_5) (.ops r105_6))
def r105_7 : List J := [
  .op ⟨some 24, none, .bin .add (.tmp 15) (.const (.int .i64 1))⟩,
  .op ⟨some 15, none, .mv (.tmp 24)⟩]
def l105_1 : IC := (.seq (.ops r105_4) (.seq (.cond (.tmp 16) .skip (.exit 0)) (.seq (.block 1 k105_1) (.ops r105_7))))
def k105_0 : IC := (.loop l105_1)
def r105_8 : List J := [
  .op ⟨some 25, none, .mv (.tmp 6)⟩,
  .op ⟨some 26, none, .mv (.tmp 7)⟩,
  .op ⟨some 27, none, .isn true (.tmp 26)⟩,
  .op ⟨some 4, none, .mv (.tmp 25)⟩,
  .op ⟨some 5, none, .mv (.tmp 27)⟩]
def d105 : FnD := ⟨28, [.tmp 4, .tmp 5], (.seq (.ops r105_0) (.seq (.ops r105_1) (.seq (.ops r105_2) (.seq (.seq (.ops r105_3) (.block 0 k105_0)) (.seq (.ops r105_8) .ret)))))⟩
theorem ok105 : okF Tryd.prog 105 d105 = true := by kernel_rfl
/- farebox/bits.RotR[uint64] -/
def r107_0 : List J := [
  .op ⟨some 4, none, .mv (.const (.int .u64 0))⟩]
def r107_1 : List J := [
  .op ⟨some 7, none, .call 103 []⟩,
  .op ⟨some 5, none, .mv (.tmp 7)⟩]
def r107_2 : List J := [
  .op ⟨some 8, none, .mv (.tmp 1)⟩,
  .op ⟨some 9, none, .conv .u64 (.tmp 8)⟩,
  .op ⟨some 10, none, .mv (.tmp 5)⟩,
  .op ⟨some 11, none, .bin .sub (.tmp 10) (.const (.int .i64 1))⟩,
  .op ⟨some 12, none, .conv .u64 (.tmp 11)⟩,
  .op ⟨some 13, none, .bin .and (.tmp 9) (.tmp 12)⟩,
  .op ⟨some 6, none, .mv (.tmp 13)⟩]
def r107_3 : List J := [
  .op ⟨some 14, none, .mv (.tmp 0)⟩,
  .op ⟨some 15, none, .mv (.tmp 6)⟩,
  .op ⟨some 16, none, .bin .shr (.tmp 14) (.tmp 15)⟩,
  .op ⟨some 17, none, .mv (.tmp 0)⟩,
  .op ⟨some 18, none, .mv (.tmp 5)⟩,
  .op ⟨some 19, none, .conv .u64 (.tmp 18)⟩,
  .op ⟨some 20, none, .mv (.tmp 6)⟩,
  .op ⟨some 21, none, .bin .sub (.tmp 19) (.tmp 20)⟩,
  .op ⟨some 22, none, .bin .shl (.tmp 17) (.tmp 21)⟩,
  .op ⟨some 23, none, .bin .or (.tmp 16) (.tmp 22)⟩,
  .op ⟨some 4, none, .mv (.tmp 23)⟩]
def d107 : FnD := ⟨24, [.tmp 4], (.seq (.ops r107_0) (.seq (.ops r107_1) (.seq (.ops r107_2) (.seq (.ops r107_3) .ret))))⟩
theorem ok107 : okF Tryd.prog 107 d107 = true := by kernel_rfl
/- farebox/sha512.bend -/
def r106_0 : List J := [
  .op ⟨some 8, none, .mv (.const (.int .u64 0))⟩]
def r106_1 : Sch :=
  (.p [0] (.op ⟨some 9, none, .mv (.tmp 0)⟩)
  (.p [1] (.op ⟨some 10, none, .mv (.tmp 1)⟩)
  (.p [2] (.op ⟨some 11, none, .call 107 [(.tmp 9), (.tmp 10)]⟩)
  (.p [3] (.op ⟨some 12, none, .mv (.tmp 0)⟩)
  (.p [4] (.op ⟨some 13, none, .mv (.tmp 2)⟩)
  (.p [5] (.op ⟨some 14, none, .call 107 [(.tmp 12), (.tmp 13)]⟩)
  (.p [6] (.op ⟨some 15, none, .bin .xor (.tmp 11) (.tmp 14)⟩)
  (.p [7] (.op ⟨some 16, none, .mv (.tmp 0)⟩)
  (.p [8] (.op ⟨some 17, none, .mv (.tmp 3)⟩)
  (.p [9] (.op ⟨some 18, none, .bin .shr (.tmp 16) (.tmp 17)⟩)
  (.p [10] (.op ⟨some 19, none, .bin .xor (.tmp 15) (.tmp 18)⟩)
  (.p [11] (.op ⟨some 8, none, .mv (.tmp 19)⟩)
  .nil))))))))))))
def d106 : FnD := ⟨20, [.tmp 8], (.seq (.ops r106_0) (.seq (.draw r106_1 []) .ret))⟩
theorem ok106 : okF Tryd.prog 106 d106 = true := by kernel_rfl
/- farebox/sha512.Schedule -/
def r98_0 : List J := [
  .op ⟨some 1, none, .bx 136 (.tmp 0)⟩,
  .op ⟨some 2, none, .al 155 [.ints .u64 80 (List.replicate 80 0)]⟩]
def r98_1 : List J := [
  .op ⟨some 3, none, .al 155 [.ints .u64 80 (List.replicate 80 0)]⟩]
def r98_2 : List J := [
  .op ⟨some 5, none, .mv (.const (.int .i64 0))⟩]
def r98_3 : List J := [
  .op ⟨some 6, none, .bin .lss (.tmp 5) (.const (.int .i64 80))⟩]
def r98_4 : List J := [
  .op ⟨some 7, none, .mv (.tmp 5)⟩,
  .op ⟨some 4, none, .mv (.tmp 7)⟩]
def r98_5 : List J := [
  .op ⟨some 8, none, .mv (.tmp 4)⟩,
  .op ⟨some 9, none, .bin .lss (.tmp 8) (.const (.int .i64 16))⟩]
def r98_6 : List J := [
  .op ⟨some 11, none, .mv (.tmp 4)⟩,
  .op ⟨some 12, none, .sla 128 1 (.tmp 1) none none none⟩,
  .op ⟨some 13, none, .mv (.tmp 4)⟩,
  .op ⟨some 14, none, .bin .mul (.const (.int .i64 8)) (.tmp 13)⟩,
  .op ⟨some 15, none, .call 105 [(.tmp 12), (.tmp 14)]⟩,
  .op ⟨some 10, none, .mv (.tmp 15)⟩,
  .op ⟨some 16, none, .ext (.tmp 10) 0⟩,
  .op ⟨some 17, none, .ext (.tmp 10) 1⟩,
  .op ⟨some 18, none, .ia 80 1 (.tmp 3) (.tmp 11)⟩,
  .op ⟨none, none, .st 1 (.tmp 18) (.tmp 16)⟩]
def r98_7 : Sch :=
  (.p [0] (.op ⟨some 19, none, .mv (.tmp 4)⟩)
  (.p [1] (.op ⟨some 20, none, .mv (.tmp 4)⟩)
  (.p [2] (.op ⟨some 21, none, .bin .sub (.tmp 20) (.const (.int .i64 2))⟩)
  (.p [3] (.op ⟨some 22, none, .ia 80 1 (.tmp 3) (.tmp 21)⟩)
  (.p [6] (.op ⟨some 25, none, .mv (.tmp 4)⟩)
  (.p [7] (.op ⟨some 26, none, .bin .sub (.tmp 25) (.const (.int .i64 7))⟩)
  (.p [8] (.op ⟨some 27, none, .ia 80 1 (.tmp 3) (.tmp 26)⟩)
  (.p [11] (.op ⟨some 30, none, .mv (.tmp 4)⟩)
  (.p [12] (.op ⟨some 31, none, .bin .sub (.tmp 30) (.const (.int .i64 15))⟩)
  (.p [13] (.op ⟨some 32, none, .ia 80 1 (.tmp 3) (.tmp 31)⟩)
  (.p [17] (.op ⟨some 36, none, .mv (.tmp 4)⟩)
  (.p [18] (.op ⟨some 37, none, .bin .sub (.tmp 36) (.const (.int .i64 16))⟩)
  (.p [19] (.op ⟨some 38, none, .ia 80 1 (.tmp 3) (.tmp 37)⟩)
  (.q [4] (.op ⟨some 23, none, .ld 1 false (.tmp 22)⟩)
  (.p [5] (.op ⟨some 24, none, .call 106 [(.tmp 23), (.const (.int .i64 19)), (.const (.int .i64 61)), (.const (.int .i64 6))]⟩)
  (.q [9] (.op ⟨some 28, none, .ld 1 false (.tmp 27)⟩)
  (.p [10] (.op ⟨some 29, none, .bin .add (.tmp 24) (.tmp 28)⟩)
  (.q [14] (.op ⟨some 33, none, .ld 1 false (.tmp 32)⟩)
  (.p [15] (.op ⟨some 34, none, .call 106 [(.tmp 33), (.const (.int .i64 1)), (.const (.int .i64 8)), (.const (.int .i64 7))]⟩)
  (.p [16] (.op ⟨some 35, none, .bin .add (.tmp 29) (.tmp 34)⟩)
  (.q [20] (.op ⟨some 39, none, .ld 1 false (.tmp 38)⟩)
  (.p [21] (.op ⟨some 40, none, .bin .add (.tmp 35) (.tmp 39)⟩)
  (.p [22] (.op ⟨some 41, none, .ia 80 1 (.tmp 3) (.tmp 19)⟩)
  (.e 23 ⟨none, none, .st 1 (.tmp 41) (.tmp 40)⟩
  .nil))))))))))))))))))))))))
def k98_1 : IC := (.seq (.ops r98_4) (.seq (.seq (.ops r98_5) (.cond (.tmp 9) (.seq (.ops r98_6) (.exit 1)) .skip)) (.draw r98_7 [23])))
def r98_8 : List J := [
  .op ⟨some 42, none, .bin .add (.tmp 5) (.const (.int .i64 1))⟩,
  .op ⟨some 5, none, .mv (.tmp 42)⟩]
def l98_1 : IC := (.seq (.ops r98_3) (.seq (.cond (.tmp 6) .skip (.exit 0)) (.seq (.block 1 k98_1) (.ops r98_8))))
def k98_0 : IC := (.loop l98_1)
def r98_9 : List J := [
  .op ⟨some 43, none, .ld 80 true (.tmp 3)⟩,
  .op ⟨none, none, .st 80 (.tmp 2) (.tmp 43)⟩]
def d98 : FnD := ⟨44, [.cell 2 80 true], (.seq (.ops r98_0) (.seq (.ops r98_1) (.seq (.seq (.ops r98_2) (.block 0 k98_0)) (.seq (.ops r98_9) .ret))))⟩
theorem ok98 : okF Tryd.prog 98 d98 = true := by kernel_rfl
/- farebox/sha512.mix -/
def r99_0 : List J := [
  .op ⟨some 8, none, .mv (.const (.int .u64 0))⟩]
def r99_1 : List J := [
  .op ⟨some 9, none, .mv (.tmp 0)⟩,
  .op ⟨some 10, none, .mv (.tmp 1)⟩,
  .op ⟨some 11, none, .call 107 [(.tmp 9), (.tmp 10)]⟩,
  .op ⟨some 12, none, .mv (.tmp 0)⟩,
  .op ⟨some 13, none, .mv (.tmp 2)⟩,
  .op ⟨some 14, none, .call 107 [(.tmp 12), (.tmp 13)]⟩,
  .op ⟨some 15, none, .bin .xor (.tmp 11) (.tmp 14)⟩,
  .op ⟨some 16, none, .mv (.tmp 0)⟩,
  .op ⟨some 17, none, .mv (.tmp 3)⟩,
  .op ⟨some 18, none, .call 107 [(.tmp 16), (.tmp 17)]⟩,
  .op ⟨some 19, none, .bin .xor (.tmp 15) (.tmp 18)⟩,
  .op ⟨some 8, none, .mv (.tmp 19)⟩]
def d99 : FnD := ⟨20, [.tmp 8], (.seq (.ops r99_0) (.seq (.ops r99_1) .ret))⟩
theorem ok99 : okF Tryd.prog 99 d99 = true := by kernel_rfl
/- farebox/sha512.Block -/
def r81_0 : List J := [
  .op ⟨some 2, none, .bx 135 (.tmp 0)⟩,
  .op ⟨some 3, none, .bx 136 (.tmp 1)⟩,
  .op ⟨some 4, none, .al 135 [.ints .u64 8 (List.replicate 8 0)]⟩]
def r81_1 : List J := [
  .op ⟨some 20, none, .ld 128 true (.tmp 3)⟩,
  .op ⟨some 21, none, .call 98 [(.tmp 20)]⟩,
  .op ⟨some 5, none, .al 155 [.ints .u64 80 (List.replicate 80 0)]⟩,
  .op ⟨none, none, .st 80 (.tmp 5) (.tmp 21)⟩]
def r81_2 : Sch :=
  (.p [0] (.op ⟨some 22, none, .ia 8 1 (.tmp 2) (.const (.int .i64 0))⟩)
  (.p [2] (.op ⟨some 24, none, .ia 8 1 (.tmp 2) (.const (.int .i64 1))⟩)
  (.p [4] (.op ⟨some 26, none, .ia 8 1 (.tmp 2) (.const (.int .i64 2))⟩)
  (.p [6] (.op ⟨some 28, none, .ia 8 1 (.tmp 2) (.const (.int .i64 3))⟩)
  (.q [1] (.op ⟨some 23, none, .ld 1 false (.tmp 22)⟩)
  (.p [8] (.op ⟨some 6, none, .mv (.tmp 23)⟩)
  (.q [3] (.op ⟨some 25, none, .ld 1 false (.tmp 24)⟩)
  (.p [9] (.op ⟨some 7, none, .mv (.tmp 25)⟩)
  (.q [5] (.op ⟨some 27, none, .ld 1 false (.tmp 26)⟩)
  (.p [10] (.op ⟨some 8, none, .mv (.tmp 27)⟩)
  (.q [7] (.op ⟨some 29, none, .ld 1 false (.tmp 28)⟩)
  (.p [11] (.op ⟨some 9, none, .mv (.tmp 29)⟩)
  .nil))))))))))))
def r81_3 : Sch :=
  (.p [0] (.op ⟨some 30, none, .ia 8 1 (.tmp 2) (.const (.int .i64 4))⟩)
  (.p [2] (.op ⟨some 32, none, .ia 8 1 (.tmp 2) (.const (.int .i64 5))⟩)
  (.p [4] (.op ⟨some 34, none, .ia 8 1 (.tmp 2) (.const (.int .i64 6))⟩)
  (.p [6] (.op ⟨some 36, none, .ia 8 1 (.tmp 2) (.const (.int .i64 7))⟩)
  (.q [1] (.op ⟨some 31, none, .ld 1 false (.tmp 30)⟩)
  (.p [8] (.op ⟨some 10, none, .mv (.tmp 31)⟩)
  (.q [3] (.op ⟨some 33, none, .ld 1 false (.tmp 32)⟩)
  (.p [9] (.op ⟨some 11, none, .mv (.tmp 33)⟩)
  (.q [5] (.op ⟨some 35, none, .ld 1 false (.tmp 34)⟩)
  (.p [10] (.op ⟨some 12, none, .mv (.tmp 35)⟩)
  (.q [7] (.op ⟨some 37, none, .ld 1 false (.tmp 36)⟩)
  (.p [11] (.op ⟨some 13, none, .mv (.tmp 37)⟩)
  .nil))))))))))))
def r81_4 : List J := [
  .op ⟨some 38, none, .ld 80 true (.global 2)⟩,
  .op ⟨some 39, none, .mv (.const (.int .i64 0))⟩]
def r81_5 : List J := [
  .op ⟨some 40, none, .bin .lss (.tmp 39) (.const (.int .i64 80))⟩]
def r81_6 : List J := [
  .op ⟨some 41, none, .mv (.tmp 39)⟩,
  .op ⟨some 42, none, .idx 80 1 false (.tmp 38) (.tmp 39)⟩,
  .op ⟨some 14, none, .mv (.tmp 41)⟩,
  .op ⟨some 15, none, .mv (.tmp 42)⟩]
def r81_7 : Sch :=
  (.p [0] (.op ⟨some 43, none, .mv (.tmp 13)⟩)
  (.p [1] (.op ⟨some 44, none, .mv (.tmp 10)⟩)
  (.p [2] (.op ⟨some 45, none, .call 99 [(.tmp 44), (.const (.int .i64 14)), (.const (.int .i64 18)), (.const (.int .i64 41))]⟩)
  (.p [3] (.op ⟨some 46, none, .bin .add (.tmp 43) (.tmp 45)⟩)
  (.p [4] (.op ⟨some 47, none, .mv (.tmp 10)⟩)
  (.p [5] (.op ⟨some 48, none, .mv (.tmp 11)⟩)
  (.p [6] (.op ⟨some 49, none, .bin .and (.tmp 47) (.tmp 48)⟩)
  (.p [7] (.op ⟨some 50, none, .mv (.tmp 10)⟩)
  (.p [8] (.op ⟨some 51, none, .un .xor (.tmp 50)⟩)
  (.p [9] (.op ⟨some 52, none, .mv (.tmp 12)⟩)
  (.p [10] (.op ⟨some 53, none, .bin .and (.tmp 51) (.tmp 52)⟩)
  (.p [11] (.op ⟨some 54, none, .bin .xor (.tmp 49) (.tmp 53)⟩)
  (.p [12] (.op ⟨some 55, none, .bin .add (.tmp 46) (.tmp 54)⟩)
  (.p [13] (.op ⟨some 56, none, .mv (.tmp 15)⟩)
  (.p [14] (.op ⟨some 57, none, .bin .add (.tmp 55) (.tmp 56)⟩)
  (.p [15] (.op ⟨some 58, none, .mv (.tmp 14)⟩)
  (.p [16] (.op ⟨some 59, none, .ia 80 1 (.tmp 5) (.tmp 58)⟩)
  (.q [17] (.op ⟨some 60, none, .ld 1 false (.tmp 59)⟩)
  (.p [18] (.op ⟨some 61, none, .bin .add (.tmp 57) (.tmp 60)⟩)
  (.p [19] (.op ⟨some 16, none, .mv (.tmp 61)⟩)
  .nil))))))))))))))))))))
def r81_8 : List J := [
  .op ⟨some 62, none, .mv (.tmp 6)⟩,
  .op ⟨some 63, none, .call 99 [(.tmp 62), (.const (.int .i64 28)), (.const (.int .i64 34)), (.const (.int .i64 39))]⟩,
  .op ⟨some 64, none, .mv (.tmp 6)⟩,
  .op ⟨some 65, none, .mv (.tmp 7)⟩,
  .op ⟨some 66, none, .bin .and (.tmp 64) (.tmp 65)⟩,
  .op ⟨some 67, none, .mv (.tmp 6)⟩,
  .op ⟨some 68, none, .mv (.tmp 8)⟩,
  .op ⟨some 69, none, .bin .and (.tmp 67) (.tmp 68)⟩,
  .op ⟨some 70, none, .bin .xor (.tmp 66) (.tmp 69)⟩,
  .op ⟨some 71, none, .mv (.tmp 7)⟩,
  .op ⟨some 72, none, .mv (.tmp 8)⟩,
  .op ⟨some 73, none, .bin .and (.tmp 71) (.tmp 72)⟩,
  .op ⟨some 74, none, .bin .xor (.tmp 70) (.tmp 73)⟩,
  .op ⟨some 75, none, .bin .add (.tmp 63) (.tmp 74)⟩,
  .op ⟨some 17, none, .mv (.tmp 75)⟩]
def r81_9 : List J := [
  .op ⟨some 76, none, .mv (.tmp 12)⟩,
  .op ⟨some 77, none, .mv (.tmp 11)⟩,
  .op ⟨some 78, none, .mv (.tmp 10)⟩,
  .op ⟨some 79, none, .mv (.tmp 9)⟩,
  .op ⟨some 80, none, .mv (.tmp 16)⟩,
  .op ⟨some 81, none, .bin .add (.tmp 79) (.tmp 80)⟩,
  .op ⟨some 82, none, .mv (.tmp 8)⟩,
  .op ⟨some 83, none, .mv (.tmp 7)⟩,
  .op ⟨some 84, none, .mv (.tmp 6)⟩,
  .op ⟨some 85, none, .mv (.tmp 16)⟩,
  .op ⟨some 86, none, .mv (.tmp 17)⟩,
  .op ⟨some 87, none, .bin .add (.tmp 85) (.tmp 86)⟩,
  .op ⟨some 13, none, .mv (.tmp 76)⟩,
  .op ⟨some 12, none, .mv (.tmp 77)⟩,
  .op ⟨some 11, none, .mv (.tmp 78)⟩,
  .op ⟨some 10, none, .mv (.tmp 81)⟩,
  .op ⟨some 9, none, .mv (.tmp 82)⟩,
  .op ⟨some 8, none, .mv (.tmp 83)⟩,
  .op ⟨some 7, none, .mv (.tmp 84)⟩,
  .op ⟨some 6, none, .mv (.tmp 87)⟩]
def k81_1 : IC := (.seq (.ops r81_6) (.seq (.draw r81_7 []) (.seq (.ops r81_8) (.ops r81_9))))
def r81_10 : List J := [
  .op ⟨some 88, none, .bin .add (.tmp 39) (.const (.int .i64 1))⟩,
  .op ⟨some 39, none, .mv (.tmp 88)⟩]
def l81_1 : IC := (.seq (.ops r81_5) (.seq (.cond (.tmp 40) .skip (.exit 0)) (.seq (.block 1 k81_1) (.ops r81_10))))
def k81_0 : IC := (.loop l81_1)
def r81_11 : List J := [
  .op ⟨some 89, none, .mv (.tmp 6)⟩,
  .op ⟨some 90, none, .mv (.tmp 7)⟩,
  .op ⟨some 91, none, .mv (.tmp 8)⟩,
  .op ⟨some 92, none, .mv (.tmp 9)⟩,
  .op ⟨some 93, none, .mv (.tmp 10)⟩,
  .op ⟨some 94, none, .mv (.tmp 11)⟩,
  .op ⟨some 95, none, .mv (.tmp 12)⟩,
  .op ⟨some 96, none, .mv (.tmp 13)⟩,
  .op ⟨some 97, none, .bd [.ints .u64 8 (List.replicate 8 0)] [(0, 1, (.tmp 89)), (1, 1, (.tmp 90)), (2, 1, (.tmp 91)), (3, 1, (.tmp 92)), (4, 1, (.tmp 93)), (5, 1, (.tmp 94)), (6, 1, (.tmp 95)), (7, 1, (.tmp 96))]⟩,
  .op ⟨some 98, none, .mv (.const (.int .i64 0))⟩]
def r81_12 : List J := [
  .op ⟨some 99, none, .bin .lss (.tmp 98) (.const (.int .i64 8))⟩]
def r81_13 : List J := [
  .op ⟨some 100, none, .mv (.tmp 98)⟩,
  .op ⟨some 101, none, .idx 8 1 false (.tmp 97) (.tmp 98)⟩,
  .op ⟨some 18, none, .mv (.tmp 100)⟩,
  .op ⟨some 19, none, .mv (.tmp 101)⟩]
def r81_14 : List J := [
  .op ⟨some 102, none, .mv (.tmp 18)⟩,
  .op ⟨some 103, none, .ia 8 1 (.tmp 2) (.tmp 102)⟩,
  .op ⟨some 104, none, .ld 1 false (.tmp 103)⟩,
  .op ⟨some 105, none, .mv (.tmp 19)⟩,
  .op ⟨some 106, none, .bin .add (.tmp 104) (.tmp 105)⟩,
  .op ⟨some 107, none, .ia 8 1 (.tmp 2) (.tmp 102)⟩,
  .op ⟨none, none, .st 1 (.tmp 107) (.tmp 106)⟩]
def k81_3 : IC := (.seq (.ops r81_13) (.ops r81_14))
def r81_15 : List J := [
  .op ⟨some 108, none, .bin .add (.tmp 98) (.const (.int .i64 1))⟩,
  .op ⟨some 98, none, .mv (.tmp 108)⟩]
def l81_2 : IC := (.seq (.ops r81_12) (.seq (.cond (.tmp 99) .skip (.exit 2)) (.seq (.block 3 k81_3) (.ops r81_15))))
def k81_2 : IC := (.loop l81_2)
def r81_16 : List J := [
  .op ⟨some 109, none, .ld 8 true (.tmp 2)⟩,
  .op ⟨none, none, .st 8 (.tmp 4) (.tmp 109)⟩]
def d81 : FnD := ⟨110, [.cell 4 8 true], (.seq (.ops r81_0) (.seq (.ops r81_1) (.seq (.draw r81_2 []) (.seq (.draw r81_3 []) (.seq (.seq (.ops r81_4) (.block 0 k81_0)) (.seq (.seq (.ops r81_11) (.block 2 k81_2)) (.seq (.ops r81_16) .ret)))))))⟩
theorem ok81 : okF Tryd.prog 81 d81 = true := by kernel_rfl
/- (*farebox/sha512.Digest).Write -/
def r46_0 : List J := [
  .op ⟨some 5, none, .mv (.tmp 0)⟩,
  .op ⟨some 6, none, .nilc (.tmp 5)⟩,
  .op ⟨some 7, none, .fa 137 (.tmp 6)⟩,
  .op ⟨some 8, none, .ld 1 false (.tmp 7)⟩,
  .op ⟨some 9, none, .mv (.tmp 1)⟩,
  .op ⟨some 10, none, .len (.tmp 9)⟩,
  .op ⟨some 11, none, .conv .u64 (.tmp 10)⟩,
  .op ⟨some 12, none, .bin .add (.tmp 8) (.tmp 11)⟩,
  .op ⟨some 13, none, .nilc (.tmp 5)⟩,
  .op ⟨some 14, none, .fa 137 (.tmp 13)⟩,
  .op ⟨none, none, .st 1 (.tmp 14) (.tmp 12)⟩]
def r46_1 : List J := [
  .op ⟨some 15, none, .mv (.tmp 1)⟩,
  .op ⟨some 16, none, .len (.tmp 15)⟩,
  .op ⟨some 17, none, .bin .gtr (.tmp 16) (.const (.int .i64 0))⟩]
def r46_2 : Sch :=
  (.p [0] (.op ⟨some 18, none, .mv (.tmp 0)⟩)
  (.p [1] (.op ⟨some 19, none, .nilc (.tmp 18)⟩)
  (.p [2] (.op ⟨some 20, none, .fa 8 (.tmp 19)⟩)
  (.p [3] (.op ⟨some 21, none, .mv (.tmp 0)⟩)
  (.p [4] (.op ⟨some 22, none, .nilc (.tmp 21)⟩)
  (.p [5] (.op ⟨some 23, none, .fa 136 (.tmp 22)⟩)
  (.p [8] (.op ⟨some 26, none, .mv (.tmp 1)⟩)
  (.q [6] (.op ⟨some 24, none, .ld 1 false (.tmp 23)⟩)
  (.p [7] (.op ⟨some 25, none, .sla 128 1 (.tmp 20) (some (.tmp 24)) none none⟩)
  (.e 9 ⟨some 27, none, .cpy 1 (.tmp 25) (.tmp 26)⟩
  (.p [10] (.op ⟨some 4, none, .mv (.tmp 27)⟩)
  .nil)))))))))))
def r46_3 : List J := [
  .op ⟨some 28, none, .mv (.tmp 1)⟩,
  .op ⟨some 29, none, .mv (.tmp 4)⟩,
  .op ⟨some 30, none, .sls 1 (.tmp 28) (some (.tmp 29)) none none⟩,
  .op ⟨some 1, none, .mv (.tmp 30)⟩]
def r46_4 : List J := [
  .op ⟨some 31, none, .mv (.tmp 0)⟩,
  .op ⟨some 32, none, .nilc (.tmp 31)⟩,
  .op ⟨some 33, none, .fa 136 (.tmp 32)⟩,
  .op ⟨some 34, none, .ld 1 false (.tmp 33)⟩,
  .op ⟨some 35, none, .mv (.tmp 4)⟩,
  .op ⟨some 36, none, .bin .add (.tmp 34) (.tmp 35)⟩,
  .op ⟨some 37, none, .nilc (.tmp 31)⟩,
  .op ⟨some 38, none, .fa 136 (.tmp 37)⟩,
  .op ⟨none, none, .st 1 (.tmp 38) (.tmp 36)⟩]
def r46_5 : List J := [
  .op ⟨some 39, none, .mv (.tmp 0)⟩,
  .op ⟨some 40, none, .nilc (.tmp 39)⟩,
  .op ⟨some 41, none, .fa 136 (.tmp 40)⟩,
  .op ⟨some 42, none, .ld 1 false (.tmp 41)⟩,
  .op ⟨some 43, none, .bin .eql (.tmp 42) (.const (.int .i64 128))⟩]
def r46_6 : Sch :=
  (.p [0] (.op ⟨some 44, none, .mv (.tmp 0)⟩)
  (.p [1] (.op ⟨some 45, none, .mv (.tmp 0)⟩)
  (.p [2] (.op ⟨some 46, none, .nilc (.tmp 45)⟩)
  (.p [3] (.op ⟨some 47, none, .fa 0 (.tmp 46)⟩)
  (.p [5] (.op ⟨some 49, none, .mv (.tmp 0)⟩)
  (.p [6] (.op ⟨some 50, none, .nilc (.tmp 49)⟩)
  (.p [7] (.op ⟨some 51, none, .fa 8 (.tmp 50)⟩)
  (.q [4] (.op ⟨some 48, none, .ld 8 true (.tmp 47)⟩)
  (.q [8] (.op ⟨some 52, none, .ld 128 true (.tmp 51)⟩)
  (.p [9] (.op ⟨some 53, none, .call 81 [(.tmp 48), (.tmp 52)]⟩)
  (.p [10] (.op ⟨some 54, none, .nilc (.tmp 44)⟩)
  (.p [11] (.op ⟨some 55, none, .fa 0 (.tmp 54)⟩)
  (.e 12 ⟨none, none, .st 8 (.tmp 55) (.tmp 53)⟩
  .nil)))))))))))))
def r46_7 : List J := [
  .op ⟨some 56, none, .mv (.tmp 0)⟩,
  .op ⟨some 57, none, .nilc (.tmp 56)⟩,
  .op ⟨some 58, none, .fa 136 (.tmp 57)⟩,
  .op ⟨none, none, .st 1 (.tmp 58) (.const (.int .i64 0))⟩]
def k46_1 : IC := (.seq (.draw r46_2 [9]) (.seq (.ops r46_3) (.seq (.ops r46_4) (.seq (.ops r46_5) (.cond (.tmp 43) (.seq (.draw r46_6 [12]) (.ops r46_7)) .skip)))))
def l46_1 : IC := (.seq (.seq (.ops r46_1) (.cond (.tmp 17) .skip (.exit 0))) (.block 1 k46_1))
def k46_0 : IC := (.loop l46_1)
def d46 : FnD := ⟨59, [], (.seq (.ops r46_0) (.block 0 k46_0))⟩
theorem ok46 : okF Tryd.prog 46 d46 = true := by kernel_rfl
/- farebox/bits.StoreLE[uint64] -/
def r100_0 : List J := [
  .op ⟨some 2, none, .mv (.const (.slice none 0 0))⟩]
def r100_1 : List J := [
  .op ⟨some 5, none, .call 103 []⟩,
  .op ⟨some 6, none, .bin .quo (.tmp 5) (.const (.int .i64 8))⟩,
  .op ⟨some 7, none, .mks 5 1 [.one (.int .u8 0)] (.tmp 6) (.tmp 6)⟩,
  .op ⟨some 3, none, .mv (.tmp 7)⟩]
def r100_2 : List J := [
  .op ⟨some 8, none, .mv (.tmp 3)⟩,
  .op ⟨some 9, none, .len (.tmp 8)⟩,
  .op ⟨some 10, none, .mv (.const (.int .i64 0))⟩]
def r100_3 : List J := [
  .op ⟨some 11, none, .bin .lss (.tmp 10) (.tmp 9)⟩]
def r100_4 : List J := [
  .op ⟨some 12, none, .mv (.tmp 10)⟩,
  .op ⟨some 4, none, .mv (.tmp 12)⟩]
def r100_5 : List J := [
  .op ⟨some 13, none, .mv (.tmp 3)⟩,
  .op ⟨some 14, none, .mv (.tmp 4)⟩,
  .op ⟨some 15, none, .mv (.tmp 0)⟩,
  .op ⟨some 16, none, .conv .u8 (.tmp 15)⟩,
  .op ⟨some 17, none, .ias 1 (.tmp 13) (.tmp 14)⟩,
  .op ⟨none, none, .st 1 (.tmp 17) (.tmp 16)⟩]
def r100_6 : List J := [
  .op ⟨some 18, none, .mv (.tmp 0)⟩,
  .op ⟨some 19, none, .bin .shr (.tmp 18) (.const (.int .u64 8))⟩,
  .op ⟨some 0, none, .mv (.tmp 19)⟩]
def k100_1 : IC := (.seq (.ops r100_4) (.seq (.ops r100_5) (.ops r100_6)))
def r100_7 : List J := [
  .op ⟨some 20, none, .bin .add (.tmp 10) (.const (.int .i64 1))⟩,
  .op ⟨some 10, none, .mv (.tmp 20)⟩]
def l100_1 : IC := (.seq (.ops r100_3) (.seq (.cond (.tmp 11) .skip (.exit 0)) (.seq (.block 1 k100_1) (.ops r100_7))))
def k100_0 : IC := (.loop l100_1)
def r100_8 : List J := [
  .op ⟨some 21, none, .mv (.tmp 3)⟩,
  .op ⟨some 2, none, .mv (.tmp 21)⟩]
def d100 : FnD := ⟨22, [.tmp 2], (.seq (.ops r100_0) (.seq (.ops r100_1) (.seq (.seq (.ops r100_2) (.block 0 k100_0)) (.seq (.ops r100_8) .ret))))⟩
theorem ok100 : okF Tryd.prog 100 d100 = true := by kernel_rfl
/- farebox/scalar.store -/
def r82_0 : List J := [
  .op ⟨some 1, none, .bx 93 (.tmp 0)⟩,
  .op ⟨some 2, none, .al 63 [.ints .u8 32 (List.replicate 32 0)]⟩]
def r82_1 : List J := [
  .op ⟨some 3, none, .al 63 [.ints .u8 32 (List.replicate 32 0)]⟩]
def r82_2 : List J := [
  .op ⟨some 6, none, .ld 4 true (.tmp 1)⟩,
  .op ⟨some 7, none, .mv (.const (.int .i64 0))⟩]
def r82_3 : List J := [
  .op ⟨some 8, none, .bin .lss (.tmp 7) (.const (.int .i64 4))⟩]
def r82_4 : List J := [
  .op ⟨some 9, none, .mv (.tmp 7)⟩,
  .op ⟨some 10, none, .idx 4 1 false (.tmp 6) (.tmp 7)⟩,
  .op ⟨some 4, none, .mv (.tmp 9)⟩,
  .op ⟨some 5, none, .mv (.tmp 10)⟩]
def r82_5 : Sch :=
  (.p [0] (.op ⟨some 11, none, .mv (.tmp 4)⟩)
  (.p [1] (.op ⟨some 12, none, .bin .mul (.const (.int .i64 8)) (.tmp 11)⟩)
  (.p [2] (.op ⟨some 13, none, .sla 32 1 (.tmp 3) (some (.tmp 12)) none none⟩)
  (.p [3] (.op ⟨some 14, none, .mv (.tmp 5)⟩)
  (.e 4 ⟨some 15, none, .call 100 [(.tmp 14)]⟩
  (.e 5 ⟨some 16, none, .cpy 1 (.tmp 13) (.tmp 15)⟩
  .nil))))))
def k82_1 : IC := (.seq (.ops r82_4) (.draw r82_5 [5]))
def r82_6 : List J := [
  .op ⟨some 17, none, .bin .add (.tmp 7) (.const (.int .i64 1))⟩,
  .op ⟨some 7, none, .mv (.tmp 17)⟩]
def l82_1 : IC := (.seq (.ops r82_3) (.seq (.cond (.tmp 8) .skip (.exit 0)) (.seq (.block 1 k82_1) (.ops r82_6))))
def k82_0 : IC := (.loop l82_1)
def r82_7 : List J := [
  .op ⟨some 18, none, .ld 32 true (.tmp 3)⟩,
  .op ⟨none, none, .st 32 (.tmp 2) (.tmp 18)⟩]
def d82 : FnD := ⟨19, [.cell 2 32 true], (.seq (.ops r82_0) (.seq (.ops r82_1) (.seq (.seq (.ops r82_2) (.block 0 k82_0)) (.seq (.ops r82_7) .ret))))⟩
theorem ok82 : okF Tryd.prog 82 d82 = true := by kernel_rfl
/- farebox/scalar.plus -/
def r89_0 : List J := [
  .op ⟨some 2, none, .bx 93 (.tmp 0)⟩,
  .op ⟨some 3, none, .bx 93 (.tmp 1)⟩,
  .op ⟨some 4, none, .al 93 [.ints .u64 4 (List.replicate 4 0)]⟩,
  .op ⟨some 5, none, .mv (.const (.int .u64 0))⟩]
def r89_1 : List J := [
  .op ⟨some 6, none, .mv (.const (.int .u64 0))⟩]
def r89_2 : List J := [
  .op ⟨some 8, none, .mv (.const (.int .i64 0))⟩]
def r89_3 : List J := [
  .op ⟨some 9, none, .bin .lss (.tmp 8) (.const (.int .i64 4))⟩]
def r89_4 : List J := [
  .op ⟨some 10, none, .mv (.tmp 8)⟩,
  .op ⟨some 7, none, .mv (.tmp 10)⟩]
def r89_5 : Sch :=
  (.p [0] (.op ⟨some 12, none, .mv (.tmp 7)⟩)
  (.p [1] (.op ⟨some 13, none, .mv (.tmp 7)⟩)
  (.p [2] (.op ⟨some 14, none, .ia 4 1 (.tmp 2) (.tmp 13)⟩)
  (.p [4] (.op ⟨some 16, none, .mv (.tmp 7)⟩)
  (.p [5] (.op ⟨some 17, none, .ia 4 1 (.tmp 3) (.tmp 16)⟩)
  (.p [7] (.op ⟨some 19, none, .mv (.tmp 6)⟩)
  (.q [3] (.op ⟨some 15, none, .ld 1 false (.tmp 14)⟩)
  (.q [6] (.op ⟨some 18, none, .ld 1 false (.tmp 17)⟩)
  (.p [8] (.op ⟨some 20, none, .xcall 78 [(.tmp 15), (.tmp 18), (.tmp 19)]⟩)
  (.p [9] (.op ⟨some 11, none, .mv (.tmp 20)⟩)
  (.p [10] (.op ⟨some 21, none, .ext (.tmp 11) 0⟩)
  (.p [11] (.op ⟨some 22, none, .ext (.tmp 11) 1⟩)
  (.p [12] (.op ⟨some 23, none, .ia 4 1 (.tmp 2) (.tmp 12)⟩)
  (.e 13 ⟨none, none, .st 1 (.tmp 23) (.tmp 21)⟩
  (.p [14] (.op ⟨some 6, none, .mv (.tmp 22)⟩)
  .nil)))))))))))))))
def k89_1 : IC := (.seq (.ops r89_4) (.draw r89_5 [13]))
def r89_6 : List J := [
  .op ⟨some 24, none, .bin .add (.tmp 8) (.const (.int .i64 1))⟩,
  .op ⟨some 8, none, .mv (.tmp 24)⟩]
def l89_1 : IC := (.seq (.ops r89_3) (.seq (.cond (.tmp 9) .skip (.exit 0)) (.seq (.block 1 k89_1) (.ops r89_6))))
def k89_0 : IC := (.loop l89_1)
def r89_7 : List J := [
  .op ⟨some 25, none, .ld 4 true (.tmp 2)⟩,
  .op ⟨some 26, none, .mv (.tmp 6)⟩,
  .op ⟨none, none, .st 4 (.tmp 4) (.tmp 25)⟩,
  .op ⟨some 5, none, .mv (.tmp 26)⟩]
def d89 : FnD := ⟨27, [.cell 4 4 true, .tmp 5], (.seq (.ops r89_0) (.seq (.ops r89_1) (.seq (.seq (.ops r89_2) (.block 0 k89_0)) (.seq (.ops r89_7) .ret))))⟩
theorem ok89 : okF Tryd.prog 89 d89 = true := by kernel_rfl
/- farebox/scalar.below -/
def r91_0 : List J := [
  .op ⟨some 1, none, .bx 93 (.tmp 0)⟩,
  .op ⟨some 2, none, .al 93 [.ints .u64 4 (List.replicate 4 0)]⟩]
def r91_1 : List J := [
  .op ⟨some 3, none, .mv (.const (.int .i64 3))⟩]
def r91_2 : List J := [
  .op ⟨some 4, none, .mv (.tmp 3)⟩,
  .op ⟨some 5, none, .bin .geq (.tmp 4) (.const (.int .i64 0))⟩]
def r91_4 : Sch :=
  (.p [0] (.op ⟨some 8, none, .mv (.tmp 3)⟩)
  (.p [1] (.op ⟨some 9, none, .ia 4 1 (.tmp 1) (.tmp 8)⟩)
  (.p [3] (.op ⟨some 11, none, .mv (.tmp 3)⟩)
  (.p [4] (.op ⟨some 12, none, .ia 4 1 (.global 0) (.tmp 11)⟩)
  (.q [2] (.op ⟨some 10, none, .ld 1 false (.tmp 9)⟩)
  (.q [5] (.op ⟨some 13, none, .ld 1 false (.tmp 12)⟩)
  (.p [6] (.op ⟨some 14, none, .bin .lss (.tmp 10) (.tmp 13)⟩)
  .nil)))))))
def r91_5 : Sch :=
  (.p [0] (.op ⟨some 15, none, .mv (.tmp 3)⟩)
  (.p [1] (.op ⟨some 16, none, .ia 4 1 (.tmp 1) (.tmp 15)⟩)
  (.p [3] (.op ⟨some 18, none, .mv (.tmp 3)⟩)
  (.p [4] (.op ⟨some 19, none, .ia 4 1 (.global 0) (.tmp 18)⟩)
  (.q [2] (.op ⟨some 17, none, .ld 1 false (.tmp 16)⟩)
  (.q [5] (.op ⟨some 20, none, .ld 1 false (.tmp 19)⟩)
  (.p [6] (.op ⟨some 21, none, .bin .gtr (.tmp 17) (.tmp 20)⟩)
  .nil)))))))
def k91_3 : IC := (.seq (.seq (.draw r91_4 []) (.cond (.tmp 14) (.exit 0) .skip)) (.seq (.draw r91_5 []) (.cond (.tmp 21) (.exit 2) .skip)))
def r91_3 : List J := [
  .op ⟨some 6, none, .mv (.tmp 3)⟩,
  .op ⟨some 7, none, .bin .sub (.tmp 6) (.const (.int .i64 1))⟩,
  .op ⟨some 3, none, .mv (.tmp 7)⟩]
def l91_2 : IC := (.seq (.seq (.ops r91_2) (.cond (.tmp 5) .skip (.exit 2))) (.seq (.block 3 k91_3) (.ops r91_3)))
def k91_2 : IC := (.loop l91_2)
def r91_6 : List J := [
  .op ⟨some 23, none, .ld 4 true (.tmp 1)⟩,
  .op ⟨some 24, none, .ld 4 true (.global 0)⟩,
  .op ⟨some 25, none, .call 43 [(.tmp 23), (.tmp 24)]⟩,
  .op ⟨some 22, none, .mv (.tmp 25)⟩,
  .op ⟨some 26, none, .ext (.tmp 22) 0⟩,
  .op ⟨some 27, none, .ext (.tmp 22) 1⟩,
  .op ⟨none, none, .st 4 (.tmp 1) (.tmp 26)⟩]
def k91_1 : IC := (.seq (.seq (.ops r91_1) (.block 2 k91_2)) (.ops r91_6))
def l91_1 : IC := (.block 1 k91_1)
def k91_0 : IC := (.loop l91_1)
def r91_7 : List J := [
  .op ⟨some 28, none, .ld 4 true (.tmp 1)⟩,
  .op ⟨none, none, .st 4 (.tmp 2) (.tmp 28)⟩]
def d91 : FnD := ⟨29, [.cell 2 4 true], (.seq (.ops r91_0) (.scope (.seq .lbl (.seq (.block 0 k91_0) (.seq (.ops r91_7) .ret)))))⟩
theorem ok91 : okF Tryd.prog 91 d91 = true := by kernel_rfl
/- farebox/scalar.times -/
def r92_0 : List J := [
  .op ⟨some 4, none, .mv (.const (.slice none 0 0))⟩]
def r92_1 : List J := [
  .op ⟨some 14, none, .mv (.tmp 0)⟩,
  .op ⟨some 15, none, .len (.tmp 14)⟩,
  .op ⟨some 16, none, .mv (.tmp 1)⟩,
  .op ⟨some 17, none, .len (.tmp 16)⟩,
  .op ⟨some 18, none, .bin .add (.tmp 15) (.tmp 17)⟩,
  .op ⟨some 19, none, .mks 56 8 [.one (.int .u64 0)] (.tmp 18) (.tmp 18)⟩,
  .op ⟨some 5, none, .mv (.tmp 19)⟩]
def r92_2 : List J := [
  .op ⟨some 20, none, .mv (.tmp 0)⟩,
  .op ⟨some 21, none, .len (.tmp 20)⟩,
  .op ⟨some 22, none, .mv (.const (.int .i64 0))⟩]
def r92_3 : List J := [
  .op ⟨some 23, none, .bin .lss (.tmp 22) (.tmp 21)⟩]
def r92_4 : List J := [
  .op ⟨some 24, none, .mv (.tmp 22)⟩,
  .op ⟨some 25, none, .ias 1 (.tmp 20) (.tmp 22)⟩,
  .op ⟨some 26, none, .ld 1 false (.tmp 25)⟩,
  .op ⟨some 6, none, .mv (.tmp 24)⟩,
  .op ⟨some 7, none, .mv (.tmp 26)⟩]
def r92_5 : List J := [
  .op ⟨some 8, none, .mv (.const (.int .u64 0))⟩]
def r92_6 : List J := [
  .op ⟨some 27, none, .mv (.tmp 1)⟩,
  .op ⟨some 28, none, .len (.tmp 27)⟩,
  .op ⟨some 29, none, .mv (.const (.int .i64 0))⟩]
def r92_7 : List J := [
  .op ⟨some 30, none, .bin .lss (.tmp 29) (.tmp 28)⟩]
def r92_8 : List J := [
  .op ⟨some 31, none, .mv (.tmp 29)⟩,
  .op ⟨some 32, none, .ias 1 (.tmp 27) (.tmp 29)⟩,
  .op ⟨some 33, none, .ld 1 false (.tmp 32)⟩,
  .op ⟨some 9, none, .mv (.tmp 31)⟩,
  .op ⟨some 10, none, .mv (.tmp 33)⟩]
def r92_9 : List J := [
  .op ⟨some 35, none, .mv (.tmp 7)⟩,
  .op ⟨some 36, none, .mv (.tmp 10)⟩,
  .op ⟨some 37, none, .call 96 [(.tmp 35), (.tmp 36)]⟩,
  .op ⟨some 34, none, .mv (.tmp 37)⟩,
  .op ⟨some 38, none, .ext (.tmp 34) 0⟩,
  .op ⟨some 39, none, .ext (.tmp 34) 1⟩,
  .op ⟨some 11, none, .mv (.tmp 38)⟩,
  .op ⟨some 12, none, .mv (.tmp 39)⟩]
def r92_10 : List J := [
  .op ⟨some 41, none, .mv (.tmp 12)⟩,
  .op ⟨some 42, none, .mv (.tmp 5)⟩,
  .op ⟨some 43, none, .mv (.tmp 6)⟩,
  .op ⟨some 44, none, .mv (.tmp 9)⟩,
  .op ⟨some 45, none, .bin .add (.tmp 43) (.tmp 44)⟩,
  .op ⟨some 46, none, .ias 1 (.tmp 42) (.tmp 45)⟩,
  .op ⟨some 47, none, .ld 1 false (.tmp 46)⟩,
  .op ⟨some 48, none, .xcall 78 [(.tmp 41), (.tmp 47), (.const (.int .u64 0))]⟩,
  .op ⟨some 40, none, .mv (.tmp 48)⟩,
  .op ⟨some 49, none, .ext (.tmp 40) 0⟩,
  .op ⟨some 50, none, .ext (.tmp 40) 1⟩,
  .op ⟨some 12, none, .mv (.tmp 49)⟩,
  .op ⟨some 13, none, .mv (.tmp 50)⟩]
def r92_11 : List J := [
  .op ⟨some 51, none, .mv (.tmp 11)⟩,
  .op ⟨some 52, none, .mv (.tmp 13)⟩,
  .op ⟨some 53, none, .bin .add (.tmp 51) (.tmp 52)⟩,
  .op ⟨some 11, none, .mv (.tmp 53)⟩]
def r92_12 : List J := [
  .op ⟨some 55, none, .mv (.tmp 12)⟩,
  .op ⟨some 56, none, .mv (.tmp 8)⟩,
  .op ⟨some 57, none, .xcall 78 [(.tmp 55), (.tmp 56), (.const (.int .u64 0))]⟩,
  .op ⟨some 54, none, .mv (.tmp 57)⟩,
  .op ⟨some 58, none, .ext (.tmp 54) 0⟩,
  .op ⟨some 59, none, .ext (.tmp 54) 1⟩,
  .op ⟨some 12, none, .mv (.tmp 58)⟩,
  .op ⟨some 13, none, .mv (.tmp 59)⟩]
def r92_13 : List J := [
  .op ⟨some 60, none, .mv (.tmp 5)⟩,
  .op ⟨some 61, none, .mv (.tmp 6)⟩,
  .op ⟨some 62, none, .mv (.tmp 9)⟩,
  .op ⟨some 63, none, .bin .add (.tmp 61) (.tmp 62)⟩,
  .op ⟨some 64, none, .mv (.tmp 12)⟩,
  .op ⟨some 65, none, .mv (.tmp 11)⟩,
  .op ⟨some 66, none, .mv (.tmp 13)⟩,
  .op ⟨some 67, none, .bin .add (.tmp 65) (.tmp 66)⟩,
  .op ⟨some 68, none, .ias 1 (.tmp 60) (.tmp 63)⟩,
  .op ⟨none, none, .st 1 (.tmp 68) (.tmp 64)⟩,
  .op ⟨some 8, none, .mv (.tmp 67)⟩]
def k92_3 : IC := (.seq (.ops r92_8) (.seq (.ops r92_9) (.seq (.ops r92_10) (.seq (.ops r92_11) (.seq (.ops r92_12) (.ops r92_13))))))
def r92_14 : List J := [
  .op ⟨some 69, none, .bin .add (.tmp 29) (.const (.int .i64 1))⟩,
  .op ⟨some 29, none, .mv (.tmp 69)⟩]
def l92_2 : IC := (.seq (.ops r92_7) (.seq (.cond (.tmp 30) .skip (.exit 2)) (.seq (.block 3 k92_3) (.ops r92_14))))
def k92_2 : IC := (.loop l92_2)
def r92_15 : List J := [
  .op ⟨some 70, none, .mv (.tmp 5)⟩,
  .op ⟨some 71, none, .mv (.tmp 6)⟩,
  .op ⟨some 72, none, .mv (.tmp 1)⟩,
  .op ⟨some 73, none, .len (.tmp 72)⟩,
  .op ⟨some 74, none, .bin .add (.tmp 71) (.tmp 73)⟩,
  .op ⟨some 75, none, .mv (.tmp 8)⟩,
  .op ⟨some 76, none, .ias 1 (.tmp 70) (.tmp 74)⟩,
  .op ⟨none, none, .st 1 (.tmp 76) (.tmp 75)⟩]
def k92_1 : IC := (.seq (.ops r92_4) (.seq (.ops r92_5) (.seq (.seq (.ops r92_6) (.block 2 k92_2)) (.ops r92_15))))
def r92_16 : List J := [
  .op ⟨some 77, none, .bin .add (.tmp 22) (.const (.int .i64 1))⟩,
  .op ⟨some 22, none, .mv (.tmp 77)⟩]
def l92_1 : IC := (.seq (.ops r92_3) (.seq (.cond (.tmp 23) .skip (.exit 0)) (.seq (.block 1 k92_1) (.ops r92_16))))
def k92_0 : IC := (.loop l92_1)
def r92_17 : List J := [
  .op ⟨some 78, none, .mv (.tmp 5)⟩,
  .op ⟨some 4, none, .mv (.tmp 78)⟩]
def d92 : FnD := ⟨79, [.tmp 4], (.seq (.ops r92_0) (.seq (.ops r92_1) (.seq (.seq (.ops r92_2) (.block 0 k92_0)) (.seq (.ops r92_17) .ret))))⟩
theorem ok92 : okF Tryd.prog 92 d92 = true := by kernel_rfl
/- farebox/scalar.split -/
def r101_0 : List J := [
  .op ⟨some 2, none, .al 93 [.ints .u64 4 (List.replicate 4 0)]⟩,
  .op ⟨some 3, none, .mv (.const (.slice none 0 0))⟩]
def r101_1 : List J := [
  .op ⟨some 4, none, .al 93 [.ints .u64 4 (List.replicate 4 0)]⟩]
def r101_2 : List J := [
  .op ⟨some 8, none, .sla 4 1 (.tmp 4) none none none⟩,
  .op ⟨some 9, none, .mv (.tmp 0)⟩,
  .op ⟨some 10, none, .cpy 1 (.tmp 8) (.tmp 9)⟩]
def r101_3 : List J := [
  .op ⟨some 11, none, .ia 4 1 (.tmp 4) (.const (.int .i64 3))⟩,
  .op ⟨some 12, none, .ld 1 false (.tmp 11)⟩,
  .op ⟨some 13, none, .bin .and (.tmp 12) (.const (.int .u64 1152921504606846975))⟩,
  .op ⟨some 14, none, .ia 4 1 (.tmp 4) (.const (.int .i64 3))⟩,
  .op ⟨none, none, .st 1 (.tmp 14) (.tmp 13)⟩]
def r101_4 : List J := [
  .op ⟨some 5, none, .mv (.const (.slice none 0 0))⟩]
def r101_5 : List J := [
  .op ⟨some 6, none, .mv (.const (.int .i64 3))⟩]
def r101_6 : List J := [
  .op ⟨some 15, none, .mv (.tmp 6)⟩,
  .op ⟨some 16, none, .mv (.tmp 0)⟩,
  .op ⟨some 17, none, .len (.tmp 16)⟩,
  .op ⟨some 18, none, .bin .lss (.tmp 15) (.tmp 17)⟩]
def r101_8 : List J := [
  .op ⟨some 21, none, .mv (.tmp 0)⟩,
  .op ⟨some 22, none, .mv (.tmp 6)⟩,
  .op ⟨some 23, none, .ias 1 (.tmp 21) (.tmp 22)⟩,
  .op ⟨some 24, none, .ld 1 false (.tmp 23)⟩,
  .op ⟨some 25, none, .bin .shr (.tmp 24) (.const (.int .u64 60))⟩,
  .op ⟨some 7, none, .mv (.tmp 25)⟩]
def r101_9 : List J := [
  .op ⟨some 26, none, .mv (.tmp 6)⟩,
  .op ⟨some 27, none, .bin .add (.tmp 26) (.const (.int .i64 1))⟩,
  .op ⟨some 28, none, .mv (.tmp 0)⟩,
  .op ⟨some 29, none, .len (.tmp 28)⟩,
  .op ⟨some 30, none, .bin .lss (.tmp 27) (.tmp 29)⟩]
def r101_10 : List J := [
  .op ⟨some 31, none, .mv (.tmp 7)⟩,
  .op ⟨some 32, none, .mv (.tmp 0)⟩,
  .op ⟨some 33, none, .mv (.tmp 6)⟩,
  .op ⟨some 34, none, .bin .add (.tmp 33) (.const (.int .i64 1))⟩,
  .op ⟨some 35, none, .ias 1 (.tmp 32) (.tmp 34)⟩,
  .op ⟨some 36, none, .ld 1 false (.tmp 35)⟩,
  .op ⟨some 37, none, .bin .shl (.tmp 36) (.const (.int .u64 4))⟩,
  .op ⟨some 38, none, .bin .or (.tmp 31) (.tmp 37)⟩,
  .op ⟨some 7, none, .mv (.tmp 38)⟩]
def r101_11 : List J := [
  .op ⟨some 39, none, .mv (.tmp 5)⟩,
  .op ⟨some 40, none, .mv (.tmp 7)⟩,
  .op ⟨some 41, none, .bs 56 1 1 [.one (.int .u64 0)] [(0, 1, (.tmp 40))]⟩,
  .op ⟨some 42, none, .app 56 1 8 [.one (.int .u64 0)] (.tmp 39) (.tmp 41)⟩,
  .op ⟨some 5, none, .mv (.tmp 42)⟩]
def k101_1 : IC := (.seq (.ops r101_8) (.seq (.seq (.ops r101_9) (.cond (.tmp 30) (.ops r101_10) .skip)) (.ops r101_11)))
def r101_7 : List J := [
  .op ⟨some 19, none, .mv (.tmp 6)⟩,
  .op ⟨some 20, none, .bin .add (.tmp 19) (.const (.int .i64 1))⟩,
  .op ⟨some 6, none, .mv (.tmp 20)⟩]
def l101_1 : IC := (.seq (.seq (.ops r101_6) (.cond (.tmp 18) .skip (.exit 0))) (.seq (.block 1 k101_1) (.ops r101_7)))
def k101_0 : IC := (.loop l101_1)
def r101_12 : List J := [
  .op ⟨some 43, none, .ld 4 true (.tmp 4)⟩,
  .op ⟨some 44, none, .mv (.tmp 5)⟩,
  .op ⟨none, none, .st 4 (.tmp 2) (.tmp 43)⟩,
  .op ⟨some 3, none, .mv (.tmp 44)⟩]
def d101 : FnD := ⟨45, [.cell 2 4 true, .tmp 3], (.seq (.ops r101_0) (.seq (.ops r101_1) (.seq (.ops r101_2) (.seq (.ops r101_3) (.seq (.ops r101_4) (.seq (.seq (.ops r101_5) (.block 0 k101_0)) (.seq (.ops r101_12) .ret)))))))⟩
theorem ok101 : okF Tryd.prog 101 d101 = true := by kernel_rfl
/- farebox/scalar.rest -/
def r102_0 : List J := [
  .op ⟨some 0, none, .mv (.const (.slice none 0 0))⟩]
def r102_1 : List J := [
  .op ⟨some 1, none, .bs 56 2 1 [.one (.int .u64 0), .one (.int .u64 0)] [(0, 1, (.const (.int .u64 6346243789798364141))), (1, 1, (.const (.int .u64 1503914060200516822)))]⟩,
  .op ⟨some 0, none, .mv (.tmp 1)⟩]
def d102 : FnD := ⟨2, [.tmp 0], (.seq (.ops r102_0) (.seq (.ops r102_1) .ret))⟩
theorem ok102 : okF Tryd.prog 102 d102 = true := by kernel_rfl
/- farebox/scalar.reduce -/
def r83_0 : List J := [
  .op ⟨some 2, none, .al 93 [.ints .u64 4 (List.replicate 4 0)]⟩]
def r83_1 : List J := [
  .op ⟨some 3, none, .al 158 [.rows 4 2 (fun _ => cells [.ints .u64 4 (List.replicate 4 0)])]⟩]
def r83_2 : List J := [
  .op ⟨some 10, none, .mv (.const (.int .i64 0))⟩]
def r83_3 : List J := [
  .op ⟨some 11, none, .bin .lss (.tmp 10) (.const (.int .i64 4))⟩]
def r83_4 : List J := [
  .op ⟨some 12, none, .mv (.tmp 10)⟩,
  .op ⟨some 4, none, .mv (.tmp 12)⟩]
def r83_5 : List J := [
  .op ⟨some 5, none, .al 93 [.ints .u64 4 (List.replicate 4 0)]⟩]
def r83_6 : List J := [
  .op ⟨some 14, none, .mv (.tmp 0)⟩,
  .op ⟨some 15, none, .call 101 [(.tmp 14)]⟩,
  .op ⟨some 13, none, .mv (.tmp 15)⟩,
  .op ⟨some 16, none, .ext (.tmp 13) 0⟩,
  .op ⟨some 17, none, .ext (.tmp 13) 1⟩,
  .op ⟨none, none, .st 4 (.tmp 5) (.tmp 16)⟩,
  .op ⟨some 0, none, .mv (.tmp 17)⟩]
def r83_7 : Sch :=
  (.p [0] (.op ⟨some 19, none, .mv (.tmp 4)⟩)
  (.p [1] (.op ⟨some 20, none, .bin .rem (.tmp 19) (.const (.int .i64 2))⟩)
  (.p [2] (.op ⟨some 21, none, .mv (.tmp 4)⟩)
  (.p [3] (.op ⟨some 22, none, .bin .rem (.tmp 21) (.const (.int .i64 2))⟩)
  (.p [4] (.op ⟨some 23, none, .ia 2 4 (.tmp 3) (.tmp 22)⟩)
  (.q [5] (.op ⟨some 24, none, .ld 4 true (.tmp 23)⟩)
  (.q [6] (.op ⟨some 25, none, .ld 4 true (.tmp 5)⟩)
  (.p [7] (.op ⟨some 26, none, .call 89 [(.tmp 24), (.tmp 25)]⟩)
  (.p [8] (.op ⟨some 18, none, .mv (.tmp 26)⟩)
  (.p [9] (.op ⟨some 27, none, .ext (.tmp 18) 0⟩)
  (.p [10] (.op ⟨some 28, none, .ext (.tmp 18) 1⟩)
  (.p [11] (.op ⟨some 29, none, .ia 2 4 (.tmp 3) (.tmp 20)⟩)
  (.e 12 ⟨none, none, .st 4 (.tmp 29) (.tmp 27)⟩
  .nil)))))))))))))
def r83_8 : List J := [
  .op ⟨some 30, none, .mv (.tmp 0)⟩,
  .op ⟨some 31, none, .call 102 []⟩,
  .op ⟨some 32, none, .call 92 [(.tmp 30), (.tmp 31)]⟩,
  .op ⟨some 0, none, .mv (.tmp 32)⟩]
def k83_1 : IC := (.seq (.ops r83_4) (.seq (.ops r83_5) (.seq (.ops r83_6) (.seq (.draw r83_7 [12]) (.ops r83_8)))))
def r83_9 : List J := [
  .op ⟨some 33, none, .bin .add (.tmp 10) (.const (.int .i64 1))⟩,
  .op ⟨some 10, none, .mv (.tmp 33)⟩]
def l83_1 : IC := (.seq (.ops r83_3) (.seq (.cond (.tmp 11) .skip (.exit 0)) (.seq (.block 1 k83_1) (.ops r83_9))))
def k83_0 : IC := (.loop l83_1)
def r83_10 : List J := [
  .op ⟨some 35, none, .ld 4 true (.global 0)⟩,
  .op ⟨some 36, none, .ld 4 true (.global 0)⟩,
  .op ⟨some 37, none, .call 89 [(.tmp 35), (.tmp 36)]⟩,
  .op ⟨some 34, none, .mv (.tmp 37)⟩,
  .op ⟨some 38, none, .ext (.tmp 34) 0⟩,
  .op ⟨some 39, none, .ext (.tmp 34) 1⟩,
  .op ⟨some 6, none, .al 93 [.ints .u64 4 (List.replicate 4 0)]⟩,
  .op ⟨none, none, .st 4 (.tmp 6) (.tmp 38)⟩,
  .op ⟨some 7, none, .mv (.tmp 39)⟩]
def r83_11 : List J := [
  .op ⟨some 41, none, .ia 2 4 (.tmp 3) (.const (.int .i64 0))⟩,
  .op ⟨some 42, none, .ld 4 true (.tmp 41)⟩,
  .op ⟨some 43, none, .ld 4 true (.tmp 6)⟩,
  .op ⟨some 44, none, .call 89 [(.tmp 42), (.tmp 43)]⟩,
  .op ⟨some 40, none, .mv (.tmp 44)⟩,
  .op ⟨some 45, none, .ext (.tmp 40) 0⟩,
  .op ⟨some 46, none, .ext (.tmp 40) 1⟩,
  .op ⟨some 8, none, .al 93 [.ints .u64 4 (List.replicate 4 0)]⟩,
  .op ⟨none, none, .st 4 (.tmp 8) (.tmp 45)⟩,
  .op ⟨some 9, none, .mv (.tmp 46)⟩]
def r83_12 : List J := [
  .op ⟨some 48, none, .ld 4 true (.tmp 8)⟩,
  .op ⟨some 49, none, .ia 2 4 (.tmp 3) (.const (.int .i64 1))⟩,
  .op ⟨some 50, none, .ld 4 true (.tmp 49)⟩,
  .op ⟨some 51, none, .call 43 [(.tmp 48), (.tmp 50)]⟩,
  .op ⟨some 47, none, .mv (.tmp 51)⟩,
  .op ⟨some 52, none, .ext (.tmp 47) 0⟩,
  .op ⟨some 53, none, .ext (.tmp 47) 1⟩,
  .op ⟨none, none, .st 4 (.tmp 8) (.tmp 52)⟩]
def r83_13 : List J := [
  .op ⟨some 54, none, .ld 4 true (.tmp 8)⟩,
  .op ⟨some 55, none, .call 91 [(.tmp 54)]⟩,
  .op ⟨none, none, .st 4 (.tmp 2) (.tmp 55)⟩]
def d83 : FnD := ⟨56, [.cell 2 4 true], (.seq (.ops r83_0) (.seq (.ops r83_1) (.seq (.seq (.ops r83_2) (.block 0 k83_0)) (.seq (.ops r83_10) (.seq (.ops r83_11) (.seq (.ops r83_12) (.seq (.ops r83_13) .ret)))))))⟩
theorem ok83 : okF Tryd.prog 83 d83 = true := by kernel_rfl
/- farebox/scalar.Reduce -/
def r47_0 : List J := [
  .op ⟨some 1, none, .bx 101 (.tmp 0)⟩,
  .op ⟨some 2, none, .al 63 [.ints .u8 32 (List.replicate 32 0)]⟩]
def r47_1 : List J := [
  .op ⟨some 3, none, .al 135 [.ints .u64 8 (List.replicate 8 0)]⟩]
def r47_2 : List J := [
  .op ⟨some 5, none, .mv (.const (.int .i64 0))⟩]
def r47_3 : List J := [
  .op ⟨some 6, none, .bin .lss (.tmp 5) (.const (.int .i64 8))⟩]
def r47_4 : List J := [
  .op ⟨some 7, none, .mv (.tmp 5)⟩,
  .op ⟨some 4, none, .mv (.tmp 7)⟩]
def r47_5 : List J := [
  .op ⟨some 9, none, .mv (.tmp 4)⟩,
  .op ⟨some 10, none, .sla 64 1 (.tmp 1) none none none⟩,
  .op ⟨some 11, none, .mv (.tmp 4)⟩,
  .op ⟨some 12, none, .bin .mul (.const (.int .i64 8)) (.tmp 11)⟩,
  .op ⟨some 13, none, .call 80 [(.tmp 10), (.tmp 12)]⟩,
  .op ⟨some 8, none, .mv (.tmp 13)⟩,
  .op ⟨some 14, none, .ext (.tmp 8) 0⟩,
  .op ⟨some 15, none, .ext (.tmp 8) 1⟩,
  .op ⟨some 16, none, .ia 8 1 (.tmp 3) (.tmp 9)⟩,
  .op ⟨none, none, .st 1 (.tmp 16) (.tmp 14)⟩]
def k47_1 : IC := (.seq (.ops r47_4) (.ops r47_5))
def r47_6 : List J := [
  .op ⟨some 17, none, .bin .add (.tmp 5) (.const (.int .i64 1))⟩,
  .op ⟨some 5, none, .mv (.tmp 17)⟩]
def l47_1 : IC := (.seq (.ops r47_3) (.seq (.cond (.tmp 6) .skip (.exit 0)) (.seq (.block 1 k47_1) (.ops r47_6))))
def k47_0 : IC := (.loop l47_1)
def r47_7 : List J := [
  .op ⟨some 18, none, .sla 8 1 (.tmp 3) none none none⟩,
  .op ⟨some 19, none, .call 83 [(.tmp 18)]⟩,
  .op ⟨some 20, none, .call 82 [(.tmp 19)]⟩,
  .op ⟨none, none, .st 32 (.tmp 2) (.tmp 20)⟩]
def d47 : FnD := ⟨21, [.cell 2 32 true], (.seq (.ops r47_0) (.seq (.ops r47_1) (.seq (.seq (.ops r47_2) (.block 0 k47_0)) (.seq (.ops r47_7) .ret))))⟩
theorem ok47 : okF Tryd.prog 47 d47 = true := by kernel_rfl
/- (*farebox/sha512.Digest).Clone -/
def r84_0 : List J := [
  .op ⟨some 2, none, .mv (.const (.pointer none))⟩]
def r84_1 : List J := [
  .op ⟨some 4, none, .mv (.tmp 0)⟩,
  .op ⟨some 5, none, .nilc (.tmp 4)⟩,
  .op ⟨some 6, none, .ld 138 true (.tmp 5)⟩,
  .op ⟨some 3, none, .al 138 [.ints .u64 8 (List.replicate 8 0), .ints .u8 128 (List.replicate 128 0), .one (.int .i64 0), .one (.int .u64 0)]⟩,
  .op ⟨none, none, .st 138 (.tmp 3) (.tmp 6)⟩]
def r84_2 : List J := [
  .op ⟨some 2, none, .mv (.tmp 3)⟩]
def d84 : FnD := ⟨7, [.tmp 2], (.seq (.ops r84_0) (.seq (.ops r84_1) (.seq (.ops r84_2) .ret)))⟩
theorem ok84 : okF Tryd.prog 84 d84 = true := by kernel_rfl
/- farebox/bits.StoreBE[uint64] -/
def r86_0 : List J := [
  .op ⟨some 2, none, .mv (.const (.slice none 0 0))⟩]
def r86_1 : List J := [
  .op ⟨some 5, none, .call 103 []⟩,
  .op ⟨some 6, none, .bin .quo (.tmp 5) (.const (.int .i64 8))⟩,
  .op ⟨some 7, none, .mks 5 1 [.one (.int .u8 0)] (.tmp 6) (.tmp 6)⟩,
  .op ⟨some 3, none, .mv (.tmp 7)⟩]
def r86_2 : List J := [
  .op ⟨some 8, none, .mv (.tmp 3)⟩,
  .op ⟨some 9, none, .len (.tmp 8)⟩,
  .op ⟨some 10, none, .bin .sub (.tmp 9) (.const (.int .i64 1))⟩,
  .op ⟨some 4, none, .mv (.tmp 10)⟩]
def r86_3 : List J := [
  .op ⟨some 11, none, .mv (.tmp 4)⟩,
  .op ⟨some 12, none, .bin .geq (.tmp 11) (.const (.int .i64 0))⟩]
def r86_5 : List J := [
  .op ⟨some 15, none, .mv (.tmp 3)⟩,
  .op ⟨some 16, none, .mv (.tmp 4)⟩,
  .op ⟨some 17, none, .mv (.tmp 0)⟩,
  .op ⟨some 18, none, .conv .u8 (.tmp 17)⟩,
  .op ⟨some 19, none, .ias 1 (.tmp 15) (.tmp 16)⟩,
  .op ⟨none, none, .st 1 (.tmp 19) (.tmp 18)⟩]
def r86_6 : List J := [
  .op ⟨some 20, none, .mv (.tmp 0)⟩,
  .op ⟨some 21, none, .bin .shr (.tmp 20) (.const (.int .u64 8))⟩,
  .op ⟨some 0, none, .mv (.tmp 21)⟩]
def k86_1 : IC := (.seq (.ops r86_5) (.ops r86_6))
def r86_4 : List J := [
  .op ⟨some 13, none, .mv (.tmp 4)⟩,
  .op ⟨some 14, none, .bin .sub (.tmp 13) (.const (.int .i64 1))⟩,
  .op ⟨some 4, none, .mv (.tmp 14)⟩]
def l86_1 : IC := (.seq (.seq (.ops r86_3) (.cond (.tmp 12) .skip (.exit 0))) (.seq (.block 1 k86_1) (.ops r86_4)))
def k86_0 : IC := (.loop l86_1)
def r86_7 : List J := [
  .op ⟨some 22, none, .mv (.tmp 3)⟩,
  .op ⟨some 2, none, .mv (.tmp 22)⟩]
def d86 : FnD := ⟨23, [.tmp 2], (.seq (.ops r86_0) (.seq (.ops r86_1) (.seq (.seq (.ops r86_2) (.block 0 k86_0)) (.seq (.ops r86_7) .ret))))⟩
theorem ok86 : okF Tryd.prog 86 d86 = true := by kernel_rfl
/- farebox/sha512.Pad -/
def r85_0 : List J := [
  .op ⟨some 2, none, .mv (.const (.slice none 0 0))⟩]
def r85_1 : List J := [
  .op ⟨some 5, none, .mv (.tmp 0)⟩,
  .op ⟨some 6, none, .bin .add (.tmp 5) (.const (.int .u64 17))⟩,
  .op ⟨some 7, none, .bin .rem (.tmp 6) (.const (.int .u64 128))⟩,
  .op ⟨some 8, none, .conv .i64 (.tmp 7)⟩,
  .op ⟨some 9, none, .bin .sub (.const (.int .i64 128)) (.tmp 8)⟩,
  .op ⟨some 10, none, .bin .rem (.tmp 9) (.const (.int .i64 128))⟩,
  .op ⟨some 3, none, .mv (.tmp 10)⟩]
def r85_2 : List J := [
  .op ⟨some 11, none, .mv (.tmp 3)⟩,
  .op ⟨some 12, none, .bin .add (.const (.int .i64 17)) (.tmp 11)⟩,
  .op ⟨some 13, none, .mks 5 1 [.one (.int .u8 0)] (.const (.int .i64 0)) (.tmp 12)⟩,
  .op ⟨some 4, none, .mv (.tmp 13)⟩]
def r85_3 : List J := [
  .op ⟨some 14, none, .mv (.tmp 4)⟩,
  .op ⟨some 15, none, .bs 5 1 1 [.one (.int .u8 0)] [(0, 1, (.const (.int .u8 128)))]⟩,
  .op ⟨some 16, none, .app 5 1 1 [.one (.int .u8 0)] (.tmp 14) (.tmp 15)⟩,
  .op ⟨some 4, none, .mv (.tmp 16)⟩]
def r85_4 : List J := [
  .op ⟨some 17, none, .mv (.tmp 4)⟩,
  .op ⟨some 18, none, .mv (.tmp 3)⟩,
  .op ⟨some 19, none, .apz 5 1 1 [.one (.int .u8 0)] (.tmp 17) (.tmp 18)⟩,
  .op ⟨some 4, none, .mv (.tmp 19)⟩]
def r85_5 : List J := [
  .op ⟨some 20, none, .mv (.tmp 4)⟩,
  .op ⟨some 21, none, .mv (.tmp 0)⟩,
  .op ⟨some 22, none, .bin .shr (.tmp 21) (.const (.int .u64 61))⟩,
  .op ⟨some 23, none, .call 86 [(.tmp 22)]⟩,
  .op ⟨some 24, none, .app 5 1 1 [.one (.int .u8 0)] (.tmp 20) (.tmp 23)⟩,
  .op ⟨some 4, none, .mv (.tmp 24)⟩]
def r85_6 : List J := [
  .op ⟨some 25, none, .mv (.tmp 4)⟩,
  .op ⟨some 26, none, .mv (.tmp 0)⟩,
  .op ⟨some 27, none, .bin .shl (.tmp 26) (.const (.int .u64 3))⟩,
  .op ⟨some 28, none, .call 86 [(.tmp 27)]⟩,
  .op ⟨some 29, none, .app 5 1 1 [.one (.int .u8 0)] (.tmp 25) (.tmp 28)⟩,
  .op ⟨some 2, none, .mv (.tmp 29)⟩]
def d85 : FnD := ⟨30, [.tmp 2], (.seq (.ops r85_0) (.seq (.ops r85_1) (.seq (.ops r85_2) (.seq (.ops r85_3) (.seq (.ops r85_4) (.seq (.ops r85_5) (.seq (.ops r85_6) .ret)))))))⟩
theorem ok85 : okF Tryd.prog 85 d85 = true := by kernel_rfl
/- (*farebox/sha512.Digest).Sum -/
def r48_0 : List J := [
  .op ⟨some 2, none, .al 101 [.ints .u8 64 (List.replicate 64 0)]⟩]
def r48_1 : List J := [
  .op ⟨some 7, none, .mv (.tmp 0)⟩,
  .op ⟨some 8, none, .call 84 [(.tmp 7)]⟩,
  .op ⟨some 3, none, .mv (.tmp 8)⟩]
def r48_2 : List J := [
  .op ⟨some 9, none, .mv (.tmp 3)⟩,
  .op ⟨some 10, none, .mv (.tmp 0)⟩,
  .op ⟨some 11, none, .nilc (.tmp 10)⟩,
  .op ⟨some 12, none, .fa 137 (.tmp 11)⟩,
  .op ⟨some 13, none, .ld 1 false (.tmp 12)⟩,
  .op ⟨some 14, none, .call 85 [(.tmp 13)]⟩,
  .op ⟨some 15, none, .call 46 [(.tmp 9), (.tmp 14)]⟩]
def r48_3 : List J := [
  .op ⟨some 4, none, .al 101 [.ints .u8 64 (List.replicate 64 0)]⟩]
def r48_4 : List J := [
  .op ⟨some 16, none, .mv (.tmp 3)⟩,
  .op ⟨some 17, none, .nilc (.tmp 16)⟩,
  .op ⟨some 18, none, .fa 0 (.tmp 17)⟩,
  .op ⟨some 19, none, .ld 8 true (.tmp 18)⟩,
  .op ⟨some 20, none, .mv (.const (.int .i64 0))⟩]
def r48_5 : List J := [
  .op ⟨some 21, none, .bin .lss (.tmp 20) (.const (.int .i64 8))⟩]
def r48_6 : List J := [
  .op ⟨some 22, none, .mv (.tmp 20)⟩,
  .op ⟨some 23, none, .idx 8 1 false (.tmp 19) (.tmp 20)⟩,
  .op ⟨some 5, none, .mv (.tmp 22)⟩,
  .op ⟨some 6, none, .mv (.tmp 23)⟩]
def r48_7 : Sch :=
  (.p [0] (.op ⟨some 24, none, .mv (.tmp 5)⟩)
  (.p [1] (.op ⟨some 25, none, .bin .mul (.const (.int .i64 8)) (.tmp 24)⟩)
  (.p [2] (.op ⟨some 26, none, .sla 64 1 (.tmp 4) (some (.tmp 25)) none none⟩)
  (.p [3] (.op ⟨some 27, none, .mv (.tmp 6)⟩)
  (.e 4 ⟨some 28, none, .call 86 [(.tmp 27)]⟩
  (.e 5 ⟨some 29, none, .cpy 1 (.tmp 26) (.tmp 28)⟩
  .nil))))))
def k48_1 : IC := (.seq (.ops r48_6) (.draw r48_7 [5]))
def r48_8 : List J := [
  .op ⟨some 30, none, .bin .add (.tmp 20) (.const (.int .i64 1))⟩,
  .op ⟨some 20, none, .mv (.tmp 30)⟩]
def l48_1 : IC := (.seq (.ops r48_5) (.seq (.cond (.tmp 21) .skip (.exit 0)) (.seq (.block 1 k48_1) (.ops r48_8))))
def k48_0 : IC := (.loop l48_1)
def r48_9 : List J := [
  .op ⟨some 31, none, .ld 64 true (.tmp 4)⟩,
  .op ⟨none, none, .st 64 (.tmp 2) (.tmp 31)⟩]
def d48 : FnD := ⟨32, [.cell 2 64 true], (.seq (.ops r48_0) (.seq (.ops r48_1) (.seq (.ops r48_2) (.seq (.ops r48_3) (.seq (.seq (.ops r48_4) (.block 0 k48_0)) (.seq (.ops r48_9) .ret))))))⟩
theorem ok48 : okF Tryd.prog 48 d48 = true := by kernel_rfl
/- farebox/sign.hash -/
def r20_0 : List J := [
  .op ⟨some 2, none, .al 63 [.ints .u8 32 (List.replicate 32 0)]⟩]
def r20_1 : List J := [
  .op ⟨some 6, none, .call 45 []⟩,
  .op ⟨some 3, none, .mv (.tmp 6)⟩]
def r20_2 : List J := [
  .op ⟨some 7, none, .mv (.tmp 0)⟩,
  .op ⟨some 8, none, .len (.tmp 7)⟩,
  .op ⟨some 9, none, .mv (.const (.int .i64 0))⟩]
def r20_3 : List J := [
  .op ⟨some 10, none, .bin .lss (.tmp 9) (.tmp 8)⟩]
def r20_4 : List J := [
  .op ⟨some 11, none, .ias 1 (.tmp 7) (.tmp 9)⟩,
  .op ⟨some 12, none, .ld 1 false (.tmp 11)⟩,
  .op ⟨some 5, none, .mv (.tmp 12)⟩]
def r20_5 : List J := [
  .op ⟨some 13, none, .mv (.tmp 3)⟩,
  .op ⟨some 14, none, .mv (.tmp 5)⟩,
  .op ⟨some 15, none, .call 46 [(.tmp 13), (.tmp 14)]⟩]
def k20_1 : IC := (.seq (.ops r20_4) (.ops r20_5))
def r20_6 : List J := [
  .op ⟨some 16, none, .bin .add (.tmp 9) (.const (.int .i64 1))⟩,
  .op ⟨some 9, none, .mv (.tmp 16)⟩]
def l20_1 : IC := (.seq (.ops r20_3) (.seq (.cond (.tmp 10) .skip (.exit 0)) (.seq (.block 1 k20_1) (.ops r20_6))))
def k20_0 : IC := (.loop l20_1)
def r20_7 : List J := [
  .op ⟨some 17, none, .mv (.tmp 3)⟩,
  .op ⟨some 18, none, .call 48 [(.tmp 17)]⟩,
  .op ⟨some 19, none, .call 47 [(.tmp 18)]⟩,
  .op ⟨none, none, .st 32 (.tmp 2) (.tmp 19)⟩]
def d20 : FnD := ⟨20, [.cell 2 32 true], (.seq (.ops r20_0) (.seq (.ops r20_1) (.seq (.seq (.ops r20_2) (.block 0 k20_0)) (.seq (.ops r20_7) .ret))))⟩
theorem ok20 : okF Tryd.prog 20 d20 = true := by kernel_rfl
/- farebox/field.Invert -/
def r49_0 : List J := [
  .op ⟨some 1, none, .bx 58 (.tmp 0)⟩,
  .op ⟨some 2, none, .al 58 [.ints .u64 5 (List.replicate 5 0)]⟩]
def r49_1 : Sch :=
  (.p [1] (.op ⟨some 4, none, .call 72 [(.const (.int .u8 235)), (.const (.int .u8 127))]⟩)
  (.q [0] (.op ⟨some 3, none, .ld 5 true (.tmp 1)⟩)
  (.p [2] (.op ⟨some 5, none, .call 71 [(.tmp 3), (.tmp 4)]⟩)
  (.e 3 ⟨none, none, .st 5 (.tmp 2) (.tmp 5)⟩
  .nil))))
def d49 : FnD := ⟨6, [.cell 2 5 true], (.seq (.ops r49_0) (.seq (.draw r49_1 [3]) .ret))⟩
theorem ok49 : okF Tryd.prog 49 d49 = true := by kernel_rfl
/- farebox/curve.Encode -/
def r21_0 : List J := [
  .op ⟨some 1, none, .bx 60 (.tmp 0)⟩,
  .op ⟨some 2, none, .al 27 [.ints .u8 32 (List.replicate 32 0)]⟩]
def r21_1 : List J := [
  .op ⟨some 5, none, .fa 10 (.tmp 1)⟩,
  .op ⟨some 6, none, .ld 5 true (.tmp 5)⟩,
  .op ⟨some 7, none, .call 49 [(.tmp 6)]⟩,
  .op ⟨some 3, none, .al 58 [.ints .u64 5 (List.replicate 5 0)]⟩,
  .op ⟨none, none, .st 5 (.tmp 3) (.tmp 7)⟩]
def r21_2 : List J := [
  .op ⟨some 8, none, .fa 5 (.tmp 1)⟩,
  .op ⟨some 9, none, .ld 5 true (.tmp 8)⟩,
  .op ⟨some 10, none, .ld 5 true (.tmp 3)⟩,
  .op ⟨some 11, none, .call 39 [(.tmp 9), (.tmp 10)]⟩,
  .op ⟨some 12, none, .call 50 [(.tmp 11)]⟩,
  .op ⟨some 4, none, .al 27 [.ints .u8 32 (List.replicate 32 0)]⟩,
  .op ⟨none, none, .st 32 (.tmp 4) (.tmp 12)⟩]
def r21_3 : List J := [
  .op ⟨some 13, none, .fa 0 (.tmp 1)⟩,
  .op ⟨some 14, none, .ld 5 true (.tmp 13)⟩,
  .op ⟨some 15, none, .ld 5 true (.tmp 3)⟩,
  .op ⟨some 16, none, .call 39 [(.tmp 14), (.tmp 15)]⟩,
  .op ⟨some 17, none, .call 51 [(.tmp 16)]⟩]
def r21_4 : List J := [
  .op ⟨some 18, none, .ia 32 1 (.tmp 4) (.const (.int .i64 31))⟩,
  .op ⟨some 19, none, .ld 1 false (.tmp 18)⟩,
  .op ⟨some 20, none, .bin .or (.tmp 19) (.const (.int .u8 128))⟩,
  .op ⟨some 21, none, .ia 32 1 (.tmp 4) (.const (.int .i64 31))⟩,
  .op ⟨none, none, .st 1 (.tmp 21) (.tmp 20)⟩]
def r21_5 : List J := [
  .op ⟨some 22, none, .ld 32 true (.tmp 4)⟩,
  .op ⟨none, none, .st 32 (.tmp 2) (.tmp 22)⟩]
def d21 : FnD := ⟨23, [.cell 2 32 true], (.seq (.ops r21_0) (.seq (.ops r21_1) (.seq (.ops r21_2) (.seq (.seq (.ops r21_3) (.cond (.tmp 17) (.ops r21_4) .skip)) (.seq (.ops r21_5) .ret)))))⟩
theorem ok21 : okF Tryd.prog 21 d21 = true := by kernel_rfl
/- farebox/curve.start -/
def r52_0 : List J := [
  .op ⟨some 0, none, .al 60 [.ints .u64 5 (List.replicate 5 0), .ints .u64 5 (List.replicate 5 0), .ints .u64 5 (List.replicate 5 0), .ints .u64 5 (List.replicate 5 0)]⟩]
def r52_1 : List J := [
  .op ⟨some 5, none, .bd [.ints .u8 32 (List.replicate 32 0)] [(0, 1, (.const (.int .u8 26))), (1, 1, (.const (.int .u8 213))), (2, 1, (.const (.int .u8 37))), (3, 1, (.const (.int .u8 143))), (4, 1, (.const (.int .u8 96))), (5, 1, (.const (.int .u8 45))), (6, 1, (.const (.int .u8 86))), (7, 1, (.const (.int .u8 201))), (8, 1, (.const (.int .u8 178))), (9, 1, (.const (.int .u8 167))), (10, 1, (.const (.int .u8 37))), (11, 1, (.const (.int .u8 149))), (12, 1, (.const (.int .u8 96))), (13, 1, (.const (.int .u8 199))), (14, 1, (.const (.int .u8 44))), (15, 1, (.const (.int .u8 105))), (16, 1, (.const (.int .u8 92))), (17, 1, (.const (.int .u8 220))), (18, 1, (.const (.int .u8 214))), (19, 1, (.const (.int .u8 253))), (20, 1, (.const (.int .u8 49))), (21, 1, (.const (.int .u8 226))), (22, 1, (.const (.int .u8 164))), (23, 1, (.const (.int .u8 192))), (24, 1, (.const (.int .u8 254))), (25, 1, (.const (.int .u8 83))), (26, 1, (.const (.int .u8 110))), (27, 1, (.const (.int .u8 205))), (28, 1, (.const (.int .u8 211))), (29, 1, (.const (.int .u8 54))), (30, 1, (.const (.int .u8 105))), (31, 1, (.const (.int .u8 33)))]⟩,
  .op ⟨some 6, none, .call 33 [(.tmp 5)]⟩,
  .op ⟨some 1, none, .al 58 [.ints .u64 5 (List.replicate 5 0)]⟩,
  .op ⟨none, none, .st 5 (.tmp 1) (.tmp 6)⟩]
def r52_2 : List J := [
  .op ⟨some 7, none, .bd [.ints .u8 32 (List.replicate 32 0)] [(0, 1, (.const (.int .u8 88)))]⟩,
  .op ⟨some 2, none, .al 26 [.ints .u8 32 (List.replicate 32 0)]⟩,
  .op ⟨none, none, .st 32 (.tmp 2) (.tmp 7)⟩]
def r52_3 : List J := [
  .op ⟨some 8, none, .mv (.const (.int .i64 0))⟩]
def r52_4 : List J := [
  .op ⟨some 9, none, .bin .lss (.tmp 8) (.const (.int .i64 31))⟩]
def r52_5 : List J := [
  .op ⟨some 10, none, .mv (.tmp 8)⟩,
  .op ⟨some 3, none, .mv (.tmp 10)⟩]
def r52_6 : List J := [
  .op ⟨some 11, none, .mv (.tmp 3)⟩,
  .op ⟨some 12, none, .bin .add (.tmp 11) (.const (.int .i64 1))⟩,
  .op ⟨some 13, none, .ia 32 1 (.tmp 2) (.tmp 12)⟩,
  .op ⟨none, none, .st 1 (.tmp 13) (.const (.int .u8 102))⟩]
def k52_1 : IC := (.seq (.ops r52_5) (.ops r52_6))
def r52_7 : List J := [
  .op ⟨some 14, none, .bin .add (.tmp 8) (.const (.int .i64 1))⟩,
  .op ⟨some 8, none, .mv (.tmp 14)⟩]
def l52_1 : IC := (.seq (.ops r52_4) (.seq (.cond (.tmp 9) .skip (.exit 0)) (.seq (.block 1 k52_1) (.ops r52_7))))
def k52_0 : IC := (.loop l52_1)
def r52_8 : List J := [
  .op ⟨some 15, none, .ld 32 true (.tmp 2)⟩,
  .op ⟨some 16, none, .call 33 [(.tmp 15)]⟩,
  .op ⟨some 4, none, .al 58 [.ints .u64 5 (List.replicate 5 0)]⟩,
  .op ⟨none, none, .st 5 (.tmp 4) (.tmp 16)⟩]
def r52_9 : Sch :=
  (.p [2] (.op ⟨some 19, none, .call 35 []⟩)
  (.q [0] (.op ⟨some 17, none, .ld 5 true (.tmp 1)⟩)
  (.q [1] (.op ⟨some 18, none, .ld 5 true (.tmp 4)⟩)
  (.q [3] (.op ⟨some 20, none, .ld 5 true (.tmp 1)⟩)
  (.q [4] (.op ⟨some 21, none, .ld 5 true (.tmp 4)⟩)
  (.p [5] (.op ⟨some 22, none, .call 39 [(.tmp 20), (.tmp 21)]⟩)
  (.p [6] (.op ⟨some 23, none, .bd [.ints .u64 5 (List.replicate 5 0), .ints .u64 5 (List.replicate 5 0), .ints .u64 5 (List.replicate 5 0), .ints .u64 5 (List.replicate 5 0)] [(0, 5, (.tmp 17)), (5, 5, (.tmp 18)), (10, 5, (.tmp 19)), (15, 5, (.tmp 22))]⟩)
  (.e 7 ⟨none, none, .st 20 (.tmp 0) (.tmp 23)⟩
  .nil))))))))
def d52 : FnD := ⟨24, [.cell 0 20 true], (.seq (.ops r52_0) (.seq (.ops r52_1) (.seq (.ops r52_2) (.seq (.seq (.ops r52_3) (.block 0 k52_0)) (.seq (.ops r52_8) (.seq (.draw r52_9 [7]) .ret))))))⟩
theorem ok52 : okF Tryd.prog 52 d52 = true := by kernel_rfl
/- farebox/curve.Zero -/
def r54_0 : List J := [
  .op ⟨some 0, none, .al 60 [.ints .u64 5 (List.replicate 5 0), .ints .u64 5 (List.replicate 5 0), .ints .u64 5 (List.replicate 5 0), .ints .u64 5 (List.replicate 5 0)]⟩]
def r54_1 : List J := [
  .op ⟨some 1, none, .call 35 []⟩,
  .op ⟨some 2, none, .call 35 []⟩,
  .op ⟨some 3, none, .bd [.ints .u64 5 (List.replicate 5 0), .ints .u64 5 (List.replicate 5 0), .ints .u64 5 (List.replicate 5 0), .ints .u64 5 (List.replicate 5 0)] [(5, 5, (.tmp 1)), (10, 5, (.tmp 2))]⟩,
  .op ⟨none, none, .st 20 (.tmp 0) (.tmp 3)⟩]
def d54 : FnD := ⟨4, [.cell 0 20 true], (.seq (.ops r54_0) (.seq (.ops r54_1) .ret))⟩
theorem ok54 : okF Tryd.prog 54 d54 = true := by kernel_rfl
/- farebox/curve.closed -/
def r87_0 : List J := [
  .op ⟨some 4, none, .bx 58 (.tmp 0)⟩,
  .op ⟨some 5, none, .bx 58 (.tmp 1)⟩,
  .op ⟨some 6, none, .bx 58 (.tmp 2)⟩,
  .op ⟨some 7, none, .bx 58 (.tmp 3)⟩,
  .op ⟨some 8, none, .al 60 [.ints .u64 5 (List.replicate 5 0), .ints .u64 5 (List.replicate 5 0), .ints .u64 5 (List.replicate 5 0), .ints .u64 5 (List.replicate 5 0)]⟩]
def r87_1 : Sch :=
  (.q [0] (.op ⟨some 9, none, .ld 5 true (.tmp 4)⟩)
  (.q [1] (.op ⟨some 10, none, .ld 5 true (.tmp 5)⟩)
  (.p [2] (.op ⟨some 11, none, .call 39 [(.tmp 9), (.tmp 10)]⟩)
  (.q [3] (.op ⟨some 12, none, .ld 5 true (.tmp 6)⟩)
  (.q [4] (.op ⟨some 13, none, .ld 5 true (.tmp 7)⟩)
  (.p [5] (.op ⟨some 14, none, .call 39 [(.tmp 12), (.tmp 13)]⟩)
  (.q [6] (.op ⟨some 15, none, .ld 5 true (.tmp 5)⟩)
  (.q [7] (.op ⟨some 16, none, .ld 5 true (.tmp 6)⟩)
  (.p [8] (.op ⟨some 17, none, .call 39 [(.tmp 15), (.tmp 16)]⟩)
  (.q [9] (.op ⟨some 18, none, .ld 5 true (.tmp 4)⟩)
  (.q [10] (.op ⟨some 19, none, .ld 5 true (.tmp 7)⟩)
  (.p [11] (.op ⟨some 20, none, .call 39 [(.tmp 18), (.tmp 19)]⟩)
  (.p [12] (.op ⟨some 21, none, .bd [.ints .u64 5 (List.replicate 5 0), .ints .u64 5 (List.replicate 5 0), .ints .u64 5 (List.replicate 5 0), .ints .u64 5 (List.replicate 5 0)] [(0, 5, (.tmp 11)), (5, 5, (.tmp 14)), (10, 5, (.tmp 17)), (15, 5, (.tmp 20))]⟩)
  (.e 13 ⟨none, none, .st 20 (.tmp 8) (.tmp 21)⟩
  .nil))))))))))))))
def d87 : FnD := ⟨22, [.cell 8 20 true], (.seq (.ops r87_0) (.seq (.draw r87_1 [13]) .ret))⟩
theorem ok87 : okF Tryd.prog 87 d87 = true := by kernel_rfl
/- farebox/curve.doubled -/
def r88_0 : List J := [
  .op ⟨some 0, none, .al 58 [.ints .u64 5 (List.replicate 5 0)]⟩]
def r88_1 : List J := [
  .op ⟨some 1, none, .bd [.ints .u64 5 (List.replicate 5 0)] [(0, 1, (.const (.int .u64 1859910466990425))), (1, 1, (.const (.int .u64 932731440258426))), (2, 1, (.const (.int .u64 1072319116312658))), (3, 1, (.const (.int .u64 1815898335770999))), (4, 1, (.const (.int .u64 633789495995903)))]⟩,
  .op ⟨none, none, .st 5 (.tmp 0) (.tmp 1)⟩]
def d88 : FnD := ⟨2, [.cell 0 5 true], (.seq (.ops r88_0) (.seq (.ops r88_1) .ret))⟩
theorem ok88 : okF Tryd.prog 88 d88 = true := by kernel_rfl
/- farebox/curve.Add -/
def r56_0 : List J := [
  .op ⟨some 2, none, .bx 60 (.tmp 0)⟩,
  .op ⟨some 3, none, .bx 60 (.tmp 1)⟩,
  .op ⟨some 4, none, .al 60 [.ints .u64 5 (List.replicate 5 0), .ints .u64 5 (List.replicate 5 0), .ints .u64 5 (List.replicate 5 0), .ints .u64 5 (List.replicate 5 0)]⟩]
def r56_1 : Sch :=
  (.p [0] (.op ⟨some 10, none, .fa 5 (.tmp 2)⟩)
  (.p [2] (.op ⟨some 12, none, .fa 0 (.tmp 2)⟩)
  (.p [5] (.op ⟨some 15, none, .fa 5 (.tmp 3)⟩)
  (.p [7] (.op ⟨some 17, none, .fa 0 (.tmp 3)⟩)
  (.q [1] (.op ⟨some 11, none, .ld 5 true (.tmp 10)⟩)
  (.q [3] (.op ⟨some 13, none, .ld 5 true (.tmp 12)⟩)
  (.p [4] (.op ⟨some 14, none, .call 37 [(.tmp 11), (.tmp 13)]⟩)
  (.q [6] (.op ⟨some 16, none, .ld 5 true (.tmp 15)⟩)
  (.q [8] (.op ⟨some 18, none, .ld 5 true (.tmp 17)⟩)
  (.p [9] (.op ⟨some 19, none, .call 37 [(.tmp 16), (.tmp 18)]⟩)
  (.p [10] (.op ⟨some 20, none, .call 39 [(.tmp 14), (.tmp 19)]⟩)
  (.e 11 ⟨some 5, none, .al 58 [.ints .u64 5 (List.replicate 5 0)]⟩
  (.e 12 ⟨none, none, .st 5 (.tmp 5) (.tmp 20)⟩
  .nil)))))))))))))
def r56_2 : Sch :=
  (.p [0] (.op ⟨some 21, none, .fa 5 (.tmp 2)⟩)
  (.p [2] (.op ⟨some 23, none, .fa 0 (.tmp 2)⟩)
  (.p [5] (.op ⟨some 26, none, .fa 5 (.tmp 3)⟩)
  (.p [7] (.op ⟨some 28, none, .fa 0 (.tmp 3)⟩)
  (.q [1] (.op ⟨some 22, none, .ld 5 true (.tmp 21)⟩)
  (.q [3] (.op ⟨some 24, none, .ld 5 true (.tmp 23)⟩)
  (.p [4] (.op ⟨some 25, none, .call 38 [(.tmp 22), (.tmp 24)]⟩)
  (.q [6] (.op ⟨some 27, none, .ld 5 true (.tmp 26)⟩)
  (.q [8] (.op ⟨some 29, none, .ld 5 true (.tmp 28)⟩)
  (.p [9] (.op ⟨some 30, none, .call 38 [(.tmp 27), (.tmp 29)]⟩)
  (.p [10] (.op ⟨some 31, none, .call 39 [(.tmp 25), (.tmp 30)]⟩)
  (.e 11 ⟨some 6, none, .al 58 [.ints .u64 5 (List.replicate 5 0)]⟩
  (.e 12 ⟨none, none, .st 5 (.tmp 6) (.tmp 31)⟩
  .nil)))))))))))))
def r56_3 : List J := [
  .op ⟨some 32, none, .call 88 []⟩,
  .op ⟨some 7, none, .al 58 [.ints .u64 5 (List.replicate 5 0)]⟩,
  .op ⟨none, none, .st 5 (.tmp 7) (.tmp 32)⟩]
def r56_4 : Sch :=
  (.p [0] (.op ⟨some 33, none, .fa 15 (.tmp 2)⟩)
  (.p [4] (.op ⟨some 37, none, .fa 15 (.tmp 3)⟩)
  (.q [1] (.op ⟨some 34, none, .ld 5 true (.tmp 33)⟩)
  (.q [2] (.op ⟨some 35, none, .ld 5 true (.tmp 7)⟩)
  (.p [3] (.op ⟨some 36, none, .call 39 [(.tmp 34), (.tmp 35)]⟩)
  (.q [5] (.op ⟨some 38, none, .ld 5 true (.tmp 37)⟩)
  (.p [6] (.op ⟨some 39, none, .call 39 [(.tmp 36), (.tmp 38)]⟩)
  (.e 7 ⟨some 8, none, .al 58 [.ints .u64 5 (List.replicate 5 0)]⟩
  (.e 8 ⟨none, none, .st 5 (.tmp 8) (.tmp 39)⟩
  .nil)))))))))
def r56_5 : Sch :=
  (.p [0] (.op ⟨some 40, none, .fa 10 (.tmp 2)⟩)
  (.p [2] (.op ⟨some 42, none, .fa 10 (.tmp 2)⟩)
  (.p [5] (.op ⟨some 45, none, .fa 10 (.tmp 3)⟩)
  (.q [1] (.op ⟨some 41, none, .ld 5 true (.tmp 40)⟩)
  (.q [3] (.op ⟨some 43, none, .ld 5 true (.tmp 42)⟩)
  (.p [4] (.op ⟨some 44, none, .call 38 [(.tmp 41), (.tmp 43)]⟩)
  (.q [6] (.op ⟨some 46, none, .ld 5 true (.tmp 45)⟩)
  (.p [7] (.op ⟨some 47, none, .call 39 [(.tmp 44), (.tmp 46)]⟩)
  (.e 8 ⟨some 9, none, .al 58 [.ints .u64 5 (List.replicate 5 0)]⟩
  (.e 9 ⟨none, none, .st 5 (.tmp 9) (.tmp 47)⟩
  .nil))))))))))
def r56_6 : Sch :=
  (.q [0] (.op ⟨some 48, none, .ld 5 true (.tmp 6)⟩)
  (.q [1] (.op ⟨some 49, none, .ld 5 true (.tmp 5)⟩)
  (.p [2] (.op ⟨some 50, none, .call 37 [(.tmp 48), (.tmp 49)]⟩)
  (.q [3] (.op ⟨some 51, none, .ld 5 true (.tmp 9)⟩)
  (.q [4] (.op ⟨some 52, none, .ld 5 true (.tmp 8)⟩)
  (.p [5] (.op ⟨some 53, none, .call 37 [(.tmp 51), (.tmp 52)]⟩)
  (.q [6] (.op ⟨some 54, none, .ld 5 true (.tmp 9)⟩)
  (.q [7] (.op ⟨some 55, none, .ld 5 true (.tmp 8)⟩)
  (.p [8] (.op ⟨some 56, none, .call 38 [(.tmp 54), (.tmp 55)]⟩)
  (.q [9] (.op ⟨some 57, none, .ld 5 true (.tmp 6)⟩)
  (.q [10] (.op ⟨some 58, none, .ld 5 true (.tmp 5)⟩)
  (.p [11] (.op ⟨some 59, none, .call 38 [(.tmp 57), (.tmp 58)]⟩)
  (.p [12] (.op ⟨some 60, none, .call 87 [(.tmp 50), (.tmp 53), (.tmp 56), (.tmp 59)]⟩)
  (.e 13 ⟨none, none, .st 20 (.tmp 4) (.tmp 60)⟩
  .nil))))))))))))))
def d56 : FnD := ⟨61, [.cell 4 20 true], (.seq (.ops r56_0) (.seq (.draw r56_1 [12]) (.seq (.draw r56_2 [12]) (.seq (.ops r56_3) (.seq (.draw r56_4 [8]) (.seq (.draw r56_5 [9]) (.seq (.draw r56_6 [13]) .ret)))))))⟩
theorem ok56 : okF Tryd.prog 56 d56 = true := by kernel_rfl
/- farebox/curve.multiples -/
def r53_0 : List J := [
  .op ⟨some 1, none, .bx 60 (.tmp 0)⟩,
  .op ⟨some 2, none, .al 105 [.rows 20 16 (fun _ => cells [.ints .u64 5 (List.replicate 5 0), .ints .u64 5 (List.replicate 5 0), .ints .u64 5 (List.replicate 5 0), .ints .u64 5 (List.replicate 5 0)])]⟩]
def r53_1 : List J := [
  .op ⟨some 3, none, .al 105 [.rows 20 16 (fun _ => cells [.ints .u64 5 (List.replicate 5 0), .ints .u64 5 (List.replicate 5 0), .ints .u64 5 (List.replicate 5 0), .ints .u64 5 (List.replicate 5 0)])]⟩]
def r53_2 : List J := [
  .op ⟨some 5, none, .call 54 []⟩,
  .op ⟨some 6, none, .ia 16 20 (.tmp 3) (.const (.int .i64 0))⟩,
  .op ⟨none, none, .st 20 (.tmp 6) (.tmp 5)⟩]
def r53_3 : List J := [
  .op ⟨some 7, none, .mv (.const (.int .i64 0))⟩]
def r53_4 : List J := [
  .op ⟨some 8, none, .bin .lss (.tmp 7) (.const (.int .i64 15))⟩]
def r53_5 : List J := [
  .op ⟨some 9, none, .mv (.tmp 7)⟩,
  .op ⟨some 4, none, .mv (.tmp 9)⟩]
def r53_6 : Sch :=
  (.p [0] (.op ⟨some 10, none, .mv (.tmp 4)⟩)
  (.p [1] (.op ⟨some 11, none, .bin .add (.tmp 10) (.const (.int .i64 1))⟩)
  (.p [2] (.op ⟨some 12, none, .mv (.tmp 4)⟩)
  (.p [3] (.op ⟨some 13, none, .ia 16 20 (.tmp 3) (.tmp 12)⟩)
  (.q [4] (.op ⟨some 14, none, .ld 20 true (.tmp 13)⟩)
  (.q [5] (.op ⟨some 15, none, .ld 20 true (.tmp 1)⟩)
  (.p [6] (.op ⟨some 16, none, .call 56 [(.tmp 14), (.tmp 15)]⟩)
  (.p [7] (.op ⟨some 17, none, .ia 16 20 (.tmp 3) (.tmp 11)⟩)
  (.e 8 ⟨none, none, .st 20 (.tmp 17) (.tmp 16)⟩
  .nil)))))))))
def k53_1 : IC := (.seq (.ops r53_5) (.draw r53_6 [8]))
def r53_7 : List J := [
  .op ⟨some 18, none, .bin .add (.tmp 7) (.const (.int .i64 1))⟩,
  .op ⟨some 7, none, .mv (.tmp 18)⟩]
def l53_1 : IC := (.seq (.ops r53_4) (.seq (.cond (.tmp 8) .skip (.exit 0)) (.seq (.block 1 k53_1) (.ops r53_7))))
def k53_0 : IC := (.loop l53_1)
def r53_8 : List J := [
  .op ⟨some 19, none, .ld 320 true (.tmp 3)⟩,
  .op ⟨none, none, .st 320 (.tmp 2) (.tmp 19)⟩]
def d53 : FnD := ⟨20, [.cell 2 320 true], (.seq (.ops r53_0) (.seq (.ops r53_1) (.seq (.ops r53_2) (.seq (.seq (.ops r53_3) (.block 0 k53_0)) (.seq (.ops r53_8) .ret)))))⟩
theorem ok53 : okF Tryd.prog 53 d53 = true := by kernel_rfl
/- farebox/curve.Double -/
def r55_0 : List J := [
  .op ⟨some 1, none, .bx 60 (.tmp 0)⟩,
  .op ⟨some 2, none, .al 60 [.ints .u64 5 (List.replicate 5 0), .ints .u64 5 (List.replicate 5 0), .ints .u64 5 (List.replicate 5 0), .ints .u64 5 (List.replicate 5 0)]⟩]
def r55_1 : List J := [
  .op ⟨some 10, none, .fa 0 (.tmp 1)⟩,
  .op ⟨some 11, none, .ld 5 true (.tmp 10)⟩,
  .op ⟨some 12, none, .call 34 [(.tmp 11)]⟩,
  .op ⟨some 3, none, .al 58 [.ints .u64 5 (List.replicate 5 0)]⟩,
  .op ⟨none, none, .st 5 (.tmp 3) (.tmp 12)⟩]
def r55_2 : List J := [
  .op ⟨some 13, none, .fa 5 (.tmp 1)⟩,
  .op ⟨some 14, none, .ld 5 true (.tmp 13)⟩,
  .op ⟨some 15, none, .call 34 [(.tmp 14)]⟩,
  .op ⟨some 4, none, .al 58 [.ints .u64 5 (List.replicate 5 0)]⟩,
  .op ⟨none, none, .st 5 (.tmp 4) (.tmp 15)⟩]
def r55_3 : List J := [
  .op ⟨some 16, none, .fa 10 (.tmp 1)⟩,
  .op ⟨some 17, none, .ld 5 true (.tmp 16)⟩,
  .op ⟨some 18, none, .call 34 [(.tmp 17)]⟩,
  .op ⟨some 5, none, .al 58 [.ints .u64 5 (List.replicate 5 0)]⟩,
  .op ⟨none, none, .st 5 (.tmp 5) (.tmp 18)⟩]
def r55_4 : List J := [
  .op ⟨some 19, none, .ld 5 true (.tmp 3)⟩,
  .op ⟨some 20, none, .ld 5 true (.tmp 4)⟩,
  .op ⟨some 21, none, .call 38 [(.tmp 19), (.tmp 20)]⟩,
  .op ⟨some 6, none, .al 58 [.ints .u64 5 (List.replicate 5 0)]⟩,
  .op ⟨none, none, .st 5 (.tmp 6) (.tmp 21)⟩]
def r55_5 : Sch :=
  (.p [1] (.op ⟨some 23, none, .fa 0 (.tmp 1)⟩)
  (.p [3] (.op ⟨some 25, none, .fa 5 (.tmp 1)⟩)
  (.q [0] (.op ⟨some 22, none, .ld 5 true (.tmp 6)⟩)
  (.q [2] (.op ⟨some 24, none, .ld 5 true (.tmp 23)⟩)
  (.q [4] (.op ⟨some 26, none, .ld 5 true (.tmp 25)⟩)
  (.p [5] (.op ⟨some 27, none, .call 38 [(.tmp 24), (.tmp 26)]⟩)
  (.p [6] (.op ⟨some 28, none, .call 34 [(.tmp 27)]⟩)
  (.p [7] (.op ⟨some 29, none, .call 37 [(.tmp 22), (.tmp 28)]⟩)
  (.e 8 ⟨some 7, none, .al 58 [.ints .u64 5 (List.replicate 5 0)]⟩
  (.e 9 ⟨none, none, .st 5 (.tmp 7) (.tmp 29)⟩
  .nil))))))))))
def r55_6 : List J := [
  .op ⟨some 30, none, .ld 5 true (.tmp 3)⟩,
  .op ⟨some 31, none, .ld 5 true (.tmp 4)⟩,
  .op ⟨some 32, none, .call 37 [(.tmp 30), (.tmp 31)]⟩,
  .op ⟨some 8, none, .al 58 [.ints .u64 5 (List.replicate 5 0)]⟩,
  .op ⟨none, none, .st 5 (.tmp 8) (.tmp 32)⟩]
def r55_7 : Sch :=
  (.q [0] (.op ⟨some 33, none, .ld 5 true (.tmp 5)⟩)
  (.q [1] (.op ⟨some 34, none, .ld 5 true (.tmp 5)⟩)
  (.p [2] (.op ⟨some 35, none, .call 38 [(.tmp 33), (.tmp 34)]⟩)
  (.q [3] (.op ⟨some 36, none, .ld 5 true (.tmp 8)⟩)
  (.p [4] (.op ⟨some 37, none, .call 38 [(.tmp 35), (.tmp 36)]⟩)
  (.e 5 ⟨some 9, none, .al 58 [.ints .u64 5 (List.replicate 5 0)]⟩
  (.e 6 ⟨none, none, .st 5 (.tmp 9) (.tmp 37)⟩
  .nil)))))))
def r55_8 : List J := [
  .op ⟨some 38, none, .ld 5 true (.tmp 7)⟩,
  .op ⟨some 39, none, .ld 5 true (.tmp 9)⟩,
  .op ⟨some 40, none, .ld 5 true (.tmp 8)⟩,
  .op ⟨some 41, none, .ld 5 true (.tmp 6)⟩,
  .op ⟨some 42, none, .call 87 [(.tmp 38), (.tmp 39), (.tmp 40), (.tmp 41)]⟩,
  .op ⟨none, none, .st 20 (.tmp 2) (.tmp 42)⟩]
def d55 : FnD := ⟨43, [.cell 2 20 true], (.seq (.ops r55_0) (.seq (.ops r55_1) (.seq (.ops r55_2) (.seq (.ops r55_3) (.seq (.ops r55_4) (.seq (.draw r55_5 [9]) (.seq (.ops r55_6) (.seq (.draw r55_7 [6]) (.seq (.ops r55_8) .ret)))))))))⟩
theorem ok55 : okF Tryd.prog 55 d55 = true := by kernel_rfl
/- farebox/curve.nibble -/
def r57_0 : List J := [
  .op ⟨some 2, none, .bx 63 (.tmp 0)⟩,
  .op ⟨some 4, none, .mv (.const (.int .u8 0))⟩]
def r57_1 : List J := [
  .op ⟨some 5, none, .mv (.tmp 1)⟩,
  .op ⟨some 6, none, .bin .quo (.tmp 5) (.const (.int .i64 2))⟩,
  .op ⟨some 7, none, .bin .sub (.const (.int .i64 31)) (.tmp 6)⟩,
  .op ⟨some 8, none, .ia 32 1 (.tmp 2) (.tmp 7)⟩,
  .op ⟨some 9, none, .ld 1 false (.tmp 8)⟩,
  .op ⟨some 10, none, .mv (.tmp 1)⟩,
  .op ⟨some 11, none, .bin .rem (.tmp 10) (.const (.int .i64 2))⟩,
  .op ⟨some 12, none, .bin .sub (.const (.int .i64 1)) (.tmp 11)⟩,
  .op ⟨some 13, none, .bin .mul (.const (.int .i64 4)) (.tmp 12)⟩,
  .op ⟨some 14, none, .bin .shr (.tmp 9) (.tmp 13)⟩,
  .op ⟨some 15, none, .bin .and (.tmp 14) (.const (.int .u8 15))⟩,
  .op ⟨some 4, none, .mv (.tmp 15)⟩]
def d57 : FnD := ⟨16, [.tmp 4], (.seq (.ops r57_0) (.seq (.ops r57_1) .ret))⟩
theorem ok57 : okF Tryd.prog 57 d57 = true := by kernel_rfl
/- farebox/curve.Combine -/
def r22_0 : List J := [
  .op ⟨some 3, none, .bx 63 (.tmp 0)⟩,
  .op ⟨some 4, none, .bx 60 (.tmp 1)⟩,
  .op ⟨some 5, none, .bx 63 (.tmp 2)⟩,
  .op ⟨some 6, none, .al 60 [.ints .u64 5 (List.replicate 5 0), .ints .u64 5 (List.replicate 5 0), .ints .u64 5 (List.replicate 5 0), .ints .u64 5 (List.replicate 5 0)]⟩]
def r22_1 : List J := [
  .op ⟨some 12, none, .call 52 []⟩,
  .op ⟨some 7, none, .al 60 [.ints .u64 5 (List.replicate 5 0), .ints .u64 5 (List.replicate 5 0), .ints .u64 5 (List.replicate 5 0), .ints .u64 5 (List.replicate 5 0)]⟩,
  .op ⟨none, none, .st 20 (.tmp 7) (.tmp 12)⟩]
def r22_2 : Sch :=
  (.q [0] (.op ⟨some 13, none, .ld 20 true (.tmp 4)⟩)
  (.p [1] (.op ⟨some 14, none, .call 53 [(.tmp 13)]⟩)
  (.q [2] (.op ⟨some 15, none, .ld 20 true (.tmp 7)⟩)
  (.p [3] (.op ⟨some 16, none, .call 53 [(.tmp 15)]⟩)
  (.two 4 ⟨some 8, none, .al 105 [.rows 20 16 (fun _ => cells [.ints .u64 5 (List.replicate 5 0), .ints .u64 5 (List.replicate 5 0), .ints .u64 5 (List.replicate 5 0), .ints .u64 5 (List.replicate 5 0)])]⟩
  (.e 5 ⟨some 9, none, .al 105 [.rows 20 16 (fun _ => cells [.ints .u64 5 (List.replicate 5 0), .ints .u64 5 (List.replicate 5 0), .ints .u64 5 (List.replicate 5 0), .ints .u64 5 (List.replicate 5 0)])]⟩
  (.e 6 ⟨none, none, .st 320 (.tmp 8) (.tmp 14)⟩
  (.e 7 ⟨none, none, .st 320 (.tmp 9) (.tmp 16)⟩
  .nil)))
  5 ⟨some 9, none, .al 105 [.rows 20 16 (fun _ => cells [.ints .u64 5 (List.replicate 5 0), .ints .u64 5 (List.replicate 5 0), .ints .u64 5 (List.replicate 5 0), .ints .u64 5 (List.replicate 5 0)])]⟩
  (.e 4 ⟨some 8, none, .al 105 [.rows 20 16 (fun _ => cells [.ints .u64 5 (List.replicate 5 0), .ints .u64 5 (List.replicate 5 0), .ints .u64 5 (List.replicate 5 0), .ints .u64 5 (List.replicate 5 0)])]⟩
  (.e 6 ⟨none, none, .st 320 (.tmp 8) (.tmp 14)⟩
  (.e 7 ⟨none, none, .st 320 (.tmp 9) (.tmp 16)⟩
  .nil))))))))
def r22_3 : List J := [
  .op ⟨some 17, none, .call 54 []⟩,
  .op ⟨some 10, none, .al 60 [.ints .u64 5 (List.replicate 5 0), .ints .u64 5 (List.replicate 5 0), .ints .u64 5 (List.replicate 5 0), .ints .u64 5 (List.replicate 5 0)]⟩,
  .op ⟨none, none, .st 20 (.tmp 10) (.tmp 17)⟩]
def r22_4 : List J := [
  .op ⟨some 18, none, .mv (.const (.int .i64 0))⟩]
def r22_5 : List J := [
  .op ⟨some 19, none, .bin .lss (.tmp 18) (.const (.int .i64 64))⟩]
def r22_6 : List J := [
  .op ⟨some 20, none, .mv (.tmp 18)⟩,
  .op ⟨some 11, none, .mv (.tmp 20)⟩]
def r22_7 : List J := [
  .op ⟨some 21, none, .mv (.const (.int .i64 0))⟩]
def r22_8 : List J := [
  .op ⟨some 22, none, .bin .lss (.tmp 21) (.const (.int .i64 4))⟩]
def r22_9 : List J := [
  .op ⟨some 23, none, .ld 20 true (.tmp 10)⟩,
  .op ⟨some 24, none, .call 55 [(.tmp 23)]⟩,
  .op ⟨none, none, .st 20 (.tmp 10) (.tmp 24)⟩]
def k22_3 : IC := (.ops r22_9)
def r22_10 : List J := [
  .op ⟨some 25, none, .bin .add (.tmp 21) (.const (.int .i64 1))⟩,
  .op ⟨some 21, none, .mv (.tmp 25)⟩]
def l22_2 : IC := (.seq (.ops r22_8) (.seq (.cond (.tmp 22) .skip (.exit 2)) (.seq (.block 3 k22_3) (.ops r22_10))))
def k22_2 : IC := (.loop l22_2)
def r22_11 : Sch :=
  (.p [2] (.op ⟨some 28, none, .mv (.tmp 11)⟩)
  (.p [8] (.op ⟨some 34, none, .mv (.tmp 11)⟩)
  (.q [0] (.op ⟨some 26, none, .ld 20 true (.tmp 10)⟩)
  (.q [1] (.op ⟨some 27, none, .ld 32 true (.tmp 3)⟩)
  (.p [3] (.op ⟨some 29, none, .call 57 [(.tmp 27), (.tmp 28)]⟩)
  (.p [4] (.op ⟨some 30, none, .ia 16 20 (.tmp 8) (.tmp 29)⟩)
  (.q [5] (.op ⟨some 31, none, .ld 20 true (.tmp 30)⟩)
  (.p [6] (.op ⟨some 32, none, .call 56 [(.tmp 26), (.tmp 31)]⟩)
  (.q [7] (.op ⟨some 33, none, .ld 32 true (.tmp 5)⟩)
  (.p [9] (.op ⟨some 35, none, .call 57 [(.tmp 33), (.tmp 34)]⟩)
  (.p [10] (.op ⟨some 36, none, .ia 16 20 (.tmp 9) (.tmp 35)⟩)
  (.q [11] (.op ⟨some 37, none, .ld 20 true (.tmp 36)⟩)
  (.p [12] (.op ⟨some 38, none, .call 56 [(.tmp 32), (.tmp 37)]⟩)
  (.e 13 ⟨none, none, .st 20 (.tmp 10) (.tmp 38)⟩
  .nil))))))))))))))
def k22_1 : IC := (.seq (.ops r22_6) (.seq (.seq (.ops r22_7) (.block 2 k22_2)) (.draw r22_11 [13])))
def r22_12 : List J := [
  .op ⟨some 39, none, .bin .add (.tmp 18) (.const (.int .i64 1))⟩,
  .op ⟨some 18, none, .mv (.tmp 39)⟩]
def l22_1 : IC := (.seq (.ops r22_5) (.seq (.cond (.tmp 19) .skip (.exit 0)) (.seq (.block 1 k22_1) (.ops r22_12))))
def k22_0 : IC := (.loop l22_1)
def r22_13 : List J := [
  .op ⟨some 40, none, .ld 20 true (.tmp 10)⟩,
  .op ⟨none, none, .st 20 (.tmp 6) (.tmp 40)⟩]
def d22 : FnD := ⟨41, [.cell 6 20 true], (.seq (.ops r22_0) (.seq (.ops r22_1) (.seq (.draw r22_2 [6, 7]) (.seq (.ops r22_3) (.seq (.seq (.ops r22_4) (.block 0 k22_0)) (.seq (.ops r22_13) .ret))))))⟩
theorem ok22 : okF Tryd.prog 22 d22 = true := by kernel_rfl
/- farebox/curve.Neg -/
def r23_0 : List J := [
  .op ⟨some 1, none, .bx 60 (.tmp 0)⟩,
  .op ⟨some 2, none, .al 60 [.ints .u64 5 (List.replicate 5 0), .ints .u64 5 (List.replicate 5 0), .ints .u64 5 (List.replicate 5 0), .ints .u64 5 (List.replicate 5 0)]⟩]
def r23_1 : Sch :=
  (.p [0] (.op ⟨some 3, none, .fa 0 (.tmp 1)⟩)
  (.p [3] (.op ⟨some 6, none, .fa 5 (.tmp 1)⟩)
  (.p [5] (.op ⟨some 8, none, .fa 10 (.tmp 1)⟩)
  (.p [7] (.op ⟨some 10, none, .fa 15 (.tmp 1)⟩)
  (.q [1] (.op ⟨some 4, none, .ld 5 true (.tmp 3)⟩)
  (.p [2] (.op ⟨some 5, none, .call 42 [(.tmp 4)]⟩)
  (.q [4] (.op ⟨some 7, none, .ld 5 true (.tmp 6)⟩)
  (.q [6] (.op ⟨some 9, none, .ld 5 true (.tmp 8)⟩)
  (.q [8] (.op ⟨some 11, none, .ld 5 true (.tmp 10)⟩)
  (.p [9] (.op ⟨some 12, none, .call 42 [(.tmp 11)]⟩)
  (.p [10] (.op ⟨some 13, none, .bd [.ints .u64 5 (List.replicate 5 0), .ints .u64 5 (List.replicate 5 0), .ints .u64 5 (List.replicate 5 0), .ints .u64 5 (List.replicate 5 0)] [(0, 5, (.tmp 5)), (5, 5, (.tmp 7)), (10, 5, (.tmp 9)), (15, 5, (.tmp 12))]⟩)
  (.e 11 ⟨none, none, .st 20 (.tmp 2) (.tmp 13)⟩
  .nil))))))))))))
def d23 : FnD := ⟨14, [.cell 2 20 true], (.seq (.ops r23_0) (.seq (.draw r23_1 [11]) .ret))⟩
theorem ok23 : okF Tryd.prog 23 d23 = true := by kernel_rfl
/- farebox/sign.Verify -/
def r7_0 : List J := [
  .op ⟨some 3, none, .bx 27 (.tmp 0)⟩,
  .op ⟨some 5, none, .bx 30 (.tmp 2)⟩,
  .op ⟨some 6, none, .mv (.const (.bool false))⟩]
def r7_1 : List J := [
  .op ⟨some 13, none, .ld 32 true (.tmp 3)⟩,
  .op ⟨some 14, none, .call 18 [(.tmp 13)]⟩,
  .op ⟨some 12, none, .mv (.tmp 14)⟩,
  .op ⟨some 15, none, .ext (.tmp 12) 0⟩,
  .op ⟨some 16, none, .ext (.tmp 12) 1⟩,
  .op ⟨some 7, none, .al 60 [.ints .u64 5 (List.replicate 5 0), .ints .u64 5 (List.replicate 5 0), .ints .u64 5 (List.replicate 5 0), .ints .u64 5 (List.replicate 5 0)]⟩,
  .op ⟨none, none, .st 20 (.tmp 7) (.tmp 15)⟩,
  .op ⟨some 8, none, .mv (.tmp 16)⟩]
def r7_2 : List J := [
  .op ⟨some 17, none, .sla 64 1 (.tmp 5) (some (.const (.int .i64 32))) none none⟩,
  .op ⟨some 18, none, .s2a 32 (.tmp 17)⟩,
  .op ⟨some 19, none, .ld 32 true (.tmp 18)⟩,
  .op ⟨some 9, none, .al 63 [.ints .u8 32 (List.replicate 32 0)]⟩,
  .op ⟨none, none, .st 32 (.tmp 9) (.tmp 19)⟩]
def r7_3 : List J := [
  .op ⟨some 20, none, .mv (.tmp 8)⟩,
  .op ⟨some 21, none, .un .not (.tmp 20)⟩,
  .op ⟨some 22, none, .mv (.tmp 21)⟩,
  .lg true 22 26 none [.op ⟨some 23, (some (22, false)), .ld 32 true (.tmp 9)⟩, .op ⟨some 24, (some (22, false)), .call 19 [(.tmp 23)]⟩, .op ⟨some 25, (some (22, false)), .un .not (.tmp 24)⟩] (.tmp 25)]
def r7_4 : List J := [
  .op ⟨some 6, none, .mv (.const (.bool false))⟩]
def r7_5 : Sch :=
  (.p [0] (.op ⟨some 27, none, .sla 64 1 (.tmp 5) none (some (.const (.int .i64 32))) none⟩)
  (.p [1] (.op ⟨some 28, none, .sla 32 1 (.tmp 3) none none none⟩)
  (.p [2] (.op ⟨some 29, none, .mv (.tmp 1)⟩)
  (.two 3 ⟨some 30, none, .bs 28 3 1 [.one (.slice none 0 0), .one (.slice none 0 0), .one (.slice none 0 0)] [(0, 1, (.tmp 27)), (1, 1, (.tmp 28)), (2, 1, (.tmp 29))]⟩
  (.two 4 ⟨some 31, none, .call 20 [(.tmp 30)]⟩
  (.e 5 ⟨some 10, none, .al 63 [.ints .u8 32 (List.replicate 32 0)]⟩
  (.e 6 ⟨none, none, .st 32 (.tmp 10) (.tmp 31)⟩
  .nil))
  5 ⟨some 10, none, .al 63 [.ints .u8 32 (List.replicate 32 0)]⟩
  (.e 4 ⟨some 31, none, .call 20 [(.tmp 30)]⟩
  (.e 6 ⟨none, none, .st 32 (.tmp 10) (.tmp 31)⟩
  .nil)))
  5 ⟨some 10, none, .al 63 [.ints .u8 32 (List.replicate 32 0)]⟩
  (.e 3 ⟨some 30, none, .bs 28 3 1 [.one (.slice none 0 0), .one (.slice none 0 0), .one (.slice none 0 0)] [(0, 1, (.tmp 27)), (1, 1, (.tmp 28)), (2, 1, (.tmp 29))]⟩
  (.e 4 ⟨some 31, none, .call 20 [(.tmp 30)]⟩
  (.e 6 ⟨none, none, .st 32 (.tmp 10) (.tmp 31)⟩
  .nil)))))))
def r7_6 : Sch :=
  (.q [0] (.op ⟨some 32, none, .ld 32 true (.tmp 10)⟩)
  (.q [1] (.op ⟨some 33, none, .ld 20 true (.tmp 7)⟩)
  (.p [2] (.op ⟨some 34, none, .call 23 [(.tmp 33)]⟩)
  (.q [3] (.op ⟨some 35, none, .ld 32 true (.tmp 9)⟩)
  (.p [4] (.op ⟨some 36, none, .call 22 [(.tmp 32), (.tmp 34), (.tmp 35)]⟩)
  (.p [5] (.op ⟨some 37, none, .call 21 [(.tmp 36)]⟩)
  (.e 6 ⟨some 11, none, .al 27 [.ints .u8 32 (List.replicate 32 0)]⟩
  (.e 7 ⟨none, none, .st 32 (.tmp 11) (.tmp 37)⟩
  .nil))))))))
def r7_7 : Sch :=
  (.p [1] (.op ⟨some 39, none, .sla 64 1 (.tmp 5) none (some (.const (.int .i64 32))) none⟩)
  (.p [2] (.op ⟨some 40, none, .s2a 32 (.tmp 39)⟩)
  (.q [0] (.op ⟨some 38, none, .ld 32 true (.tmp 11)⟩)
  (.q [3] (.op ⟨some 41, none, .ld 32 true (.tmp 40)⟩)
  (.p [4] (.op ⟨some 42, none, .eqa false [(.i .u8, 32)] (.tmp 38) (.tmp 41)⟩)
  (.p [5] (.op ⟨some 6, none, .mv (.tmp 42)⟩)
  .nil))))))
def d7 : FnD := ⟨43, [.tmp 6], (.seq (.ops r7_0) (.seq (.ops r7_1) (.seq (.ops r7_2) (.seq (.seq (.ops r7_3) (.cond (.tmp 26) (.seq (.ops r7_4) .ret) .skip)) (.seq (.draw r7_5 [6]) (.seq (.draw r7_6 [7]) (.seq (.draw r7_7 []) .ret)))))))⟩
theorem ok7 : okF Tryd.prog 7 d7 = true := by kernel_rfl
/- farebox/sign.VerifyAll -/
def r8_0 : List J := [
  .op ⟨some 6, none, .mv (.const (.int .i64 0))⟩,
  .op ⟨some 7, none, .mv (.const (.bool false))⟩]
def r8_1 : List J := [
  .op ⟨some 10, none, .mv (.tmp 0)⟩,
  .op ⟨some 11, none, .len (.tmp 10)⟩,
  .op ⟨some 8, none, .mv (.tmp 11)⟩]
def r8_2 : List J := [
  .op ⟨some 12, none, .mv (.tmp 1)⟩,
  .op ⟨some 13, none, .len (.tmp 12)⟩,
  .op ⟨some 14, none, .mv (.tmp 8)⟩,
  .op ⟨some 15, none, .bin .neq (.tmp 13) (.tmp 14)⟩,
  .op ⟨some 16, none, .mv (.tmp 15)⟩,
  .lg true 16 21 none [.op ⟨some 17, (some (16, false)), .mv (.tmp 2)⟩, .op ⟨some 18, (some (16, false)), .len (.tmp 17)⟩, .op ⟨some 19, (some (16, false)), .mv (.tmp 8)⟩, .op ⟨some 20, (some (16, false)), .bin .neq (.tmp 18) (.tmp 19)⟩] (.tmp 20)]
def r8_3 : List J := [
  .op ⟨some 6, none, .mv (.const (.int .i64 (-1)))⟩,
  .op ⟨some 7, none, .mv (.const (.bool false))⟩]
def r8_4 : List J := [
  .op ⟨some 22, none, .mv (.tmp 8)⟩,
  .op ⟨some 23, none, .mv (.const (.int .i64 0))⟩]
def r8_5 : List J := [
  .op ⟨some 24, none, .bin .lss (.tmp 23) (.tmp 22)⟩]
def r8_6 : List J := [
  .op ⟨some 25, none, .mv (.tmp 23)⟩,
  .op ⟨some 9, none, .mv (.tmp 25)⟩]
def r8_7 : Sch :=
  (.p [0] (.op ⟨some 26, none, .mv (.tmp 0)⟩)
  (.p [1] (.op ⟨some 27, none, .mv (.tmp 9)⟩)
  (.p [2] (.op ⟨some 28, none, .ias 32 (.tmp 26) (.tmp 27)⟩)
  (.p [4] (.op ⟨some 30, none, .mv (.tmp 1)⟩)
  (.p [5] (.op ⟨some 31, none, .mv (.tmp 9)⟩)
  (.p [6] (.op ⟨some 32, none, .ias 1 (.tmp 30) (.tmp 31)⟩)
  (.p [8] (.op ⟨some 34, none, .mv (.tmp 2)⟩)
  (.p [9] (.op ⟨some 35, none, .mv (.tmp 9)⟩)
  (.p [10] (.op ⟨some 36, none, .ias 64 (.tmp 34) (.tmp 35)⟩)
  (.q [3] (.op ⟨some 29, none, .ld 32 true (.tmp 28)⟩)
  (.q [7] (.op ⟨some 33, none, .ld 1 false (.tmp 32)⟩)
  (.q [11] (.op ⟨some 37, none, .ld 64 true (.tmp 36)⟩)
  (.q [12] (.op ⟨some 38, none, .call 7 [(.tmp 29), (.tmp 33), (.tmp 37)]⟩)
  (.p [13] (.op ⟨some 39, none, .un .not (.tmp 38)⟩)
  .nil))))))))))))))
def r8_8 : List J := [
  .op ⟨some 40, none, .mv (.tmp 9)⟩,
  .op ⟨some 6, none, .mv (.tmp 40)⟩,
  .op ⟨some 7, none, .mv (.const (.bool false))⟩]
def k8_1 : IC := (.seq (.ops r8_6) (.seq (.draw r8_7 []) (.cond (.tmp 39) (.seq (.ops r8_8) .ret) .skip)))
def r8_9 : List J := [
  .op ⟨some 41, none, .bin .add (.tmp 23) (.const (.int .i64 1))⟩,
  .op ⟨some 23, none, .mv (.tmp 41)⟩]
def l8_1 : IC := (.seq (.ops r8_5) (.seq (.cond (.tmp 24) .skip (.exit 0)) (.seq (.block 1 k8_1) (.ops r8_9))))
def k8_0 : IC := (.loop l8_1)
def r8_10 : List J := [
  .op ⟨some 42, none, .mv (.tmp 8)⟩,
  .op ⟨some 6, none, .mv (.tmp 42)⟩,
  .op ⟨some 7, none, .mv (.const (.bool true))⟩]
def d8 : FnD := ⟨43, [.tmp 6, .tmp 7], (.seq (.ops r8_0) (.seq (.ops r8_1) (.seq (.seq (.ops r8_2) (.cond (.tmp 21) (.seq (.ops r8_3) .ret) .skip)) (.seq (.seq (.ops r8_4) (.block 0 k8_0)) (.seq (.ops r8_10) .ret)))))⟩
theorem ok8 : okF Tryd.prog 8 d8 = true := by kernel_rfl
/- farebox/sha512.Sum -/
def r58_0 : List J := [
  .op ⟨some 2, none, .al 101 [.ints .u8 64 (List.replicate 64 0)]⟩]
def r58_1 : List J := [
  .op ⟨some 4, none, .call 45 []⟩,
  .op ⟨some 3, none, .mv (.tmp 4)⟩]
def r58_2 : List J := [
  .op ⟨some 5, none, .mv (.tmp 3)⟩,
  .op ⟨some 6, none, .mv (.tmp 0)⟩,
  .op ⟨some 7, none, .call 46 [(.tmp 5), (.tmp 6)]⟩]
def r58_3 : List J := [
  .op ⟨some 8, none, .mv (.tmp 3)⟩,
  .op ⟨some 9, none, .call 48 [(.tmp 8)]⟩,
  .op ⟨none, none, .st 64 (.tmp 2) (.tmp 9)⟩]
def d58 : FnD := ⟨10, [.cell 2 64 true], (.seq (.ops r58_0) (.seq (.ops r58_1) (.seq (.ops r58_2) (.seq (.ops r58_3) .ret))))⟩
theorem ok58 : okF Tryd.prog 58 d58 = true := by kernel_rfl
/- farebox/scalar.Clamp -/
def r59_0 : List J := [
  .op ⟨some 1, none, .bx 26 (.tmp 0)⟩,
  .op ⟨some 2, none, .al 63 [.ints .u8 32 (List.replicate 32 0)]⟩]
def r59_1 : List J := [
  .op ⟨some 3, none, .ia 32 1 (.tmp 1) (.const (.int .i64 0))⟩,
  .op ⟨some 4, none, .ld 1 false (.tmp 3)⟩,
  .op ⟨some 5, none, .bin .andNot (.tmp 4) (.const (.int .u8 7))⟩,
  .op ⟨some 6, none, .ia 32 1 (.tmp 1) (.const (.int .i64 0))⟩,
  .op ⟨none, none, .st 1 (.tmp 6) (.tmp 5)⟩]
def r59_2 : List J := [
  .op ⟨some 7, none, .ia 32 1 (.tmp 1) (.const (.int .i64 31))⟩,
  .op ⟨some 8, none, .ld 1 false (.tmp 7)⟩,
  .op ⟨some 9, none, .bin .and (.tmp 8) (.const (.int .u8 127))⟩,
  .op ⟨some 10, none, .bin .or (.tmp 9) (.const (.int .u8 64))⟩,
  .op ⟨some 11, none, .ia 32 1 (.tmp 1) (.const (.int .i64 31))⟩,
  .op ⟨none, none, .st 1 (.tmp 11) (.tmp 10)⟩]
def r59_3 : List J := [
  .op ⟨some 12, none, .ld 32 true (.tmp 1)⟩,
  .op ⟨none, none, .st 32 (.tmp 2) (.tmp 12)⟩]
def d59 : FnD := ⟨13, [.cell 2 32 true], (.seq (.ops r59_0) (.seq (.ops r59_1) (.seq (.ops r59_2) (.seq (.ops r59_3) .ret))))⟩
theorem ok59 : okF Tryd.prog 59 d59 = true := by kernel_rfl
/- farebox/sign.halves -/
def r24_0 : List J := [
  .op ⟨some 1, none, .bx 38 (.tmp 0)⟩,
  .op ⟨some 2, none, .al 63 [.ints .u8 32 (List.replicate 32 0)]⟩,
  .op ⟨some 3, none, .mv (.const (.slice none 0 0))⟩]
def r24_1 : List J := [
  .op ⟨some 5, none, .sla 32 1 (.tmp 1) none none none⟩,
  .op ⟨some 6, none, .call 58 [(.tmp 5)]⟩,
  .op ⟨some 4, none, .al 101 [.ints .u8 64 (List.replicate 64 0)]⟩,
  .op ⟨none, none, .st 64 (.tmp 4) (.tmp 6)⟩]
def r24_2 : Sch :=
  (.p [0] (.op ⟨some 7, none, .sla 64 1 (.tmp 4) none (some (.const (.int .i64 32))) none⟩)
  (.p [1] (.op ⟨some 8, none, .s2a 32 (.tmp 7)⟩)
  (.p [4] (.op ⟨some 11, none, .sla 64 1 (.tmp 4) (some (.const (.int .i64 32))) none none⟩)
  (.q [2] (.op ⟨some 9, none, .ld 32 true (.tmp 8)⟩)
  (.p [3] (.op ⟨some 10, none, .call 59 [(.tmp 9)]⟩)
  (.e 5 ⟨none, none, .st 32 (.tmp 2) (.tmp 10)⟩
  (.p [6] (.op ⟨some 3, none, .mv (.tmp 11)⟩)
  .nil)))))))
def d24 : FnD := ⟨12, [.cell 2 32 true, .tmp 3], (.seq (.ops r24_0) (.seq (.ops r24_1) (.seq (.draw r24_2 [5]) .ret)))⟩
theorem ok24 : okF Tryd.prog 24 d24 = true := by kernel_rfl
/- farebox/curve.Mul -/
def r60_0 : List J := [
  .op ⟨some 2, none, .bx 63 (.tmp 0)⟩,
  .op ⟨some 3, none, .bx 60 (.tmp 1)⟩,
  .op ⟨some 4, none, .al 60 [.ints .u64 5 (List.replicate 5 0), .ints .u64 5 (List.replicate 5 0), .ints .u64 5 (List.replicate 5 0), .ints .u64 5 (List.replicate 5 0)]⟩]
def r60_1 : List J := [
  .op ⟨some 8, none, .ld 20 true (.tmp 3)⟩,
  .op ⟨some 9, none, .call 53 [(.tmp 8)]⟩,
  .op ⟨some 5, none, .al 105 [.rows 20 16 (fun _ => cells [.ints .u64 5 (List.replicate 5 0), .ints .u64 5 (List.replicate 5 0), .ints .u64 5 (List.replicate 5 0), .ints .u64 5 (List.replicate 5 0)])]⟩,
  .op ⟨none, none, .st 320 (.tmp 5) (.tmp 9)⟩]
def r60_2 : List J := [
  .op ⟨some 10, none, .call 54 []⟩,
  .op ⟨some 6, none, .al 60 [.ints .u64 5 (List.replicate 5 0), .ints .u64 5 (List.replicate 5 0), .ints .u64 5 (List.replicate 5 0), .ints .u64 5 (List.replicate 5 0)]⟩,
  .op ⟨none, none, .st 20 (.tmp 6) (.tmp 10)⟩]
def r60_3 : List J := [
  .op ⟨some 11, none, .mv (.const (.int .i64 0))⟩]
def r60_4 : List J := [
  .op ⟨some 12, none, .bin .lss (.tmp 11) (.const (.int .i64 64))⟩]
def r60_5 : List J := [
  .op ⟨some 13, none, .mv (.tmp 11)⟩,
  .op ⟨some 7, none, .mv (.tmp 13)⟩]
def r60_6 : List J := [
  .op ⟨some 14, none, .mv (.const (.int .i64 0))⟩]
def r60_7 : List J := [
  .op ⟨some 15, none, .bin .lss (.tmp 14) (.const (.int .i64 4))⟩]
def r60_8 : List J := [
  .op ⟨some 16, none, .ld 20 true (.tmp 6)⟩,
  .op ⟨some 17, none, .call 55 [(.tmp 16)]⟩,
  .op ⟨none, none, .st 20 (.tmp 6) (.tmp 17)⟩]
def k60_3 : IC := (.ops r60_8)
def r60_9 : List J := [
  .op ⟨some 18, none, .bin .add (.tmp 14) (.const (.int .i64 1))⟩,
  .op ⟨some 14, none, .mv (.tmp 18)⟩]
def l60_2 : IC := (.seq (.ops r60_7) (.seq (.cond (.tmp 15) .skip (.exit 2)) (.seq (.block 3 k60_3) (.ops r60_9))))
def k60_2 : IC := (.loop l60_2)
def r60_10 : Sch :=
  (.p [2] (.op ⟨some 21, none, .mv (.tmp 7)⟩)
  (.q [0] (.op ⟨some 19, none, .ld 20 true (.tmp 6)⟩)
  (.q [1] (.op ⟨some 20, none, .ld 32 true (.tmp 2)⟩)
  (.p [3] (.op ⟨some 22, none, .call 57 [(.tmp 20), (.tmp 21)]⟩)
  (.p [4] (.op ⟨some 23, none, .ia 16 20 (.tmp 5) (.tmp 22)⟩)
  (.q [5] (.op ⟨some 24, none, .ld 20 true (.tmp 23)⟩)
  (.p [6] (.op ⟨some 25, none, .call 56 [(.tmp 19), (.tmp 24)]⟩)
  (.e 7 ⟨none, none, .st 20 (.tmp 6) (.tmp 25)⟩
  .nil))))))))
def k60_1 : IC := (.seq (.ops r60_5) (.seq (.seq (.ops r60_6) (.block 2 k60_2)) (.draw r60_10 [7])))
def r60_11 : List J := [
  .op ⟨some 26, none, .bin .add (.tmp 11) (.const (.int .i64 1))⟩,
  .op ⟨some 11, none, .mv (.tmp 26)⟩]
def l60_1 : IC := (.seq (.ops r60_4) (.seq (.cond (.tmp 12) .skip (.exit 0)) (.seq (.block 1 k60_1) (.ops r60_11))))
def k60_0 : IC := (.loop l60_1)
def r60_12 : List J := [
  .op ⟨some 27, none, .ld 20 true (.tmp 6)⟩,
  .op ⟨none, none, .st 20 (.tmp 4) (.tmp 27)⟩]
def d60 : FnD := ⟨28, [.cell 4 20 true], (.seq (.ops r60_0) (.seq (.ops r60_1) (.seq (.ops r60_2) (.seq (.seq (.ops r60_3) (.block 0 k60_0)) (.seq (.ops r60_12) .ret)))))⟩
theorem ok60 : okF Tryd.prog 60 d60 = true := by kernel_rfl
/- farebox/curve.MulBase -/
def r25_0 : List J := [
  .op ⟨some 1, none, .bx 63 (.tmp 0)⟩,
  .op ⟨some 2, none, .al 60 [.ints .u64 5 (List.replicate 5 0), .ints .u64 5 (List.replicate 5 0), .ints .u64 5 (List.replicate 5 0), .ints .u64 5 (List.replicate 5 0)]⟩]
def r25_1 : Sch :=
  (.p [1] (.op ⟨some 4, none, .call 52 []⟩)
  (.q [0] (.op ⟨some 3, none, .ld 32 true (.tmp 1)⟩)
  (.p [2] (.op ⟨some 5, none, .call 60 [(.tmp 3), (.tmp 4)]⟩)
  (.e 3 ⟨none, none, .st 20 (.tmp 2) (.tmp 5)⟩
  .nil))))
def d25 : FnD := ⟨6, [.cell 2 20 true], (.seq (.ops r25_0) (.seq (.draw r25_1 [3]) .ret))⟩
theorem ok25 : okF Tryd.prog 25 d25 = true := by kernel_rfl
/- farebox/scalar.words -/
def r93_0 : List J := [
  .op ⟨some 1, none, .bx 63 (.tmp 0)⟩,
  .op ⟨some 2, none, .mv (.const (.slice none 0 0))⟩]
def r93_1 : List J := [
  .op ⟨some 4, none, .ld 32 true (.tmp 1)⟩,
  .op ⟨some 5, none, .call 44 [(.tmp 4)]⟩,
  .op ⟨some 3, none, .al 93 [.ints .u64 4 (List.replicate 4 0)]⟩,
  .op ⟨none, none, .st 4 (.tmp 3) (.tmp 5)⟩]
def r93_2 : List J := [
  .op ⟨some 6, none, .sla 4 1 (.tmp 3) none none none⟩,
  .op ⟨some 2, none, .mv (.tmp 6)⟩]
def d93 : FnD := ⟨7, [.tmp 2], (.seq (.ops r93_0) (.seq (.ops r93_1) (.seq (.ops r93_2) .ret)))⟩
theorem ok93 : okF Tryd.prog 93 d93 = true := by kernel_rfl
/- farebox/scalar.mod -/
def r90_0 : List J := [
  .op ⟨some 1, none, .bx 63 (.tmp 0)⟩,
  .op ⟨some 2, none, .al 93 [.ints .u64 4 (List.replicate 4 0)]⟩]
def r90_1 : List J := [
  .op ⟨some 3, none, .ld 32 true (.tmp 1)⟩,
  .op ⟨some 4, none, .call 93 [(.tmp 3)]⟩,
  .op ⟨some 5, none, .call 83 [(.tmp 4)]⟩,
  .op ⟨none, none, .st 4 (.tmp 2) (.tmp 5)⟩]
def d90 : FnD := ⟨6, [.cell 2 4 true], (.seq (.ops r90_0) (.seq (.ops r90_1) .ret))⟩
theorem ok90 : okF Tryd.prog 90 d90 = true := by kernel_rfl
/- farebox/scalar.Add -/
def r61_0 : List J := [
  .op ⟨some 2, none, .bx 63 (.tmp 0)⟩,
  .op ⟨some 3, none, .bx 63 (.tmp 1)⟩,
  .op ⟨some 4, none, .al 63 [.ints .u8 32 (List.replicate 32 0)]⟩]
def r61_1 : Sch :=
  (.q [0] (.op ⟨some 8, none, .ld 32 true (.tmp 2)⟩)
  (.p [1] (.op ⟨some 9, none, .call 90 [(.tmp 8)]⟩)
  (.q [2] (.op ⟨some 10, none, .ld 32 true (.tmp 3)⟩)
  (.p [3] (.op ⟨some 11, none, .call 90 [(.tmp 10)]⟩)
  (.p [4] (.op ⟨some 12, none, .call 89 [(.tmp 9), (.tmp 11)]⟩)
  (.p [5] (.op ⟨some 7, none, .mv (.tmp 12)⟩)
  (.p [6] (.op ⟨some 13, none, .ext (.tmp 7) 0⟩)
  (.p [7] (.op ⟨some 14, none, .ext (.tmp 7) 1⟩)
  (.e 8 ⟨some 5, none, .al 93 [.ints .u64 4 (List.replicate 4 0)]⟩
  (.e 9 ⟨none, none, .st 4 (.tmp 5) (.tmp 13)⟩
  (.p [10] (.op ⟨some 6, none, .mv (.tmp 14)⟩)
  .nil)))))))))))
def r61_2 : List J := [
  .op ⟨some 15, none, .ld 4 true (.tmp 5)⟩,
  .op ⟨some 16, none, .call 91 [(.tmp 15)]⟩,
  .op ⟨some 17, none, .call 82 [(.tmp 16)]⟩,
  .op ⟨none, none, .st 32 (.tmp 4) (.tmp 17)⟩]
def d61 : FnD := ⟨18, [.cell 4 32 true], (.seq (.ops r61_0) (.seq (.draw r61_1 [9]) (.seq (.ops r61_2) .ret)))⟩
theorem ok61 : okF Tryd.prog 61 d61 = true := by kernel_rfl
/- farebox/scalar.Mul -/
def r62_0 : List J := [
  .op ⟨some 2, none, .bx 63 (.tmp 0)⟩,
  .op ⟨some 3, none, .bx 63 (.tmp 1)⟩,
  .op ⟨some 4, none, .al 63 [.ints .u8 32 (List.replicate 32 0)]⟩]
def r62_1 : Sch :=
  (.q [0] (.op ⟨some 5, none, .ld 32 true (.tmp 2)⟩)
  (.q [2] (.op ⟨some 7, none, .ld 32 true (.tmp 3)⟩)
  (.e 1 ⟨some 6, none, .call 93 [(.tmp 5)]⟩
  (.e 3 ⟨some 8, none, .call 93 [(.tmp 7)]⟩
  (.e 4 ⟨some 9, none, .call 92 [(.tmp 6), (.tmp 8)]⟩
  (.e 5 ⟨some 10, none, .call 83 [(.tmp 9)]⟩
  (.p [6] (.op ⟨some 11, none, .call 82 [(.tmp 10)]⟩)
  (.e 7 ⟨none, none, .st 32 (.tmp 4) (.tmp 11)⟩
  .nil))))))))
def d62 : FnD := ⟨12, [.cell 4 32 true], (.seq (.ops r62_0) (.seq (.draw r62_1 [7]) .ret))⟩
theorem ok62 : okF Tryd.prog 62 d62 = true := by kernel_rfl
/- farebox/scalar.MulAdd -/
def r26_0 : List J := [
  .op ⟨some 3, none, .bx 63 (.tmp 0)⟩,
  .op ⟨some 4, none, .bx 63 (.tmp 1)⟩,
  .op ⟨some 5, none, .bx 63 (.tmp 2)⟩,
  .op ⟨some 6, none, .al 63 [.ints .u8 32 (List.replicate 32 0)]⟩]
def r26_1 : Sch :=
  (.q [0] (.op ⟨some 7, none, .ld 32 true (.tmp 3)⟩)
  (.q [1] (.op ⟨some 8, none, .ld 32 true (.tmp 4)⟩)
  (.p [2] (.op ⟨some 9, none, .call 62 [(.tmp 7), (.tmp 8)]⟩)
  (.q [3] (.op ⟨some 10, none, .ld 32 true (.tmp 5)⟩)
  (.p [4] (.op ⟨some 11, none, .call 61 [(.tmp 9), (.tmp 10)]⟩)
  (.e 5 ⟨none, none, .st 32 (.tmp 6) (.tmp 11)⟩
  .nil))))))
def d26 : FnD := ⟨12, [.cell 6 32 true], (.seq (.ops r26_0) (.seq (.draw r26_1 [5]) .ret))⟩
theorem ok26 : okF Tryd.prog 26 d26 = true := by kernel_rfl
/- farebox/sign.Sign -/
def r11_0 : List J := [
  .op ⟨some 2, none, .bx 38 (.tmp 0)⟩,
  .op ⟨some 4, none, .al 30 [.ints .u8 64 (List.replicate 64 0)]⟩]
def r11_1 : List J := [
  .op ⟨some 14, none, .ld 32 true (.tmp 2)⟩,
  .op ⟨some 15, none, .call 24 [(.tmp 14)]⟩,
  .op ⟨some 13, none, .mv (.tmp 15)⟩,
  .op ⟨some 16, none, .ext (.tmp 13) 0⟩,
  .op ⟨some 17, none, .ext (.tmp 13) 1⟩,
  .op ⟨some 5, none, .al 63 [.ints .u8 32 (List.replicate 32 0)]⟩,
  .op ⟨none, none, .st 32 (.tmp 5) (.tmp 16)⟩,
  .op ⟨some 6, none, .mv (.tmp 17)⟩]
def r11_2 : List J := [
  .op ⟨some 18, none, .ld 32 true (.tmp 5)⟩,
  .op ⟨some 19, none, .call 25 [(.tmp 18)]⟩,
  .op ⟨some 20, none, .call 21 [(.tmp 19)]⟩,
  .op ⟨some 7, none, .al 27 [.ints .u8 32 (List.replicate 32 0)]⟩,
  .op ⟨none, none, .st 32 (.tmp 7) (.tmp 20)⟩]
def r11_3 : List J := [
  .op ⟨some 21, none, .mv (.tmp 6)⟩,
  .op ⟨some 22, none, .mv (.tmp 1)⟩,
  .op ⟨some 23, none, .bs 28 2 1 [.one (.slice none 0 0), .one (.slice none 0 0)] [(0, 1, (.tmp 21)), (1, 1, (.tmp 22))]⟩,
  .op ⟨some 24, none, .call 20 [(.tmp 23)]⟩,
  .op ⟨some 8, none, .al 63 [.ints .u8 32 (List.replicate 32 0)]⟩,
  .op ⟨none, none, .st 32 (.tmp 8) (.tmp 24)⟩]
def r11_4 : List J := [
  .op ⟨some 25, none, .ld 32 true (.tmp 8)⟩,
  .op ⟨some 26, none, .call 25 [(.tmp 25)]⟩,
  .op ⟨some 27, none, .call 21 [(.tmp 26)]⟩,
  .op ⟨some 9, none, .al 27 [.ints .u8 32 (List.replicate 32 0)]⟩,
  .op ⟨none, none, .st 32 (.tmp 9) (.tmp 27)⟩]
def r11_5 : Sch :=
  (.p [0] (.op ⟨some 28, none, .sla 32 1 (.tmp 9) none none none⟩)
  (.p [1] (.op ⟨some 29, none, .sla 32 1 (.tmp 7) none none none⟩)
  (.p [2] (.op ⟨some 30, none, .mv (.tmp 1)⟩)
  (.two 3 ⟨some 31, none, .bs 28 3 1 [.one (.slice none 0 0), .one (.slice none 0 0), .one (.slice none 0 0)] [(0, 1, (.tmp 28)), (1, 1, (.tmp 29)), (2, 1, (.tmp 30))]⟩
  (.two 4 ⟨some 32, none, .call 20 [(.tmp 31)]⟩
  (.e 5 ⟨some 10, none, .al 63 [.ints .u8 32 (List.replicate 32 0)]⟩
  (.e 6 ⟨none, none, .st 32 (.tmp 10) (.tmp 32)⟩
  .nil))
  5 ⟨some 10, none, .al 63 [.ints .u8 32 (List.replicate 32 0)]⟩
  (.e 4 ⟨some 32, none, .call 20 [(.tmp 31)]⟩
  (.e 6 ⟨none, none, .st 32 (.tmp 10) (.tmp 32)⟩
  .nil)))
  5 ⟨some 10, none, .al 63 [.ints .u8 32 (List.replicate 32 0)]⟩
  (.e 3 ⟨some 31, none, .bs 28 3 1 [.one (.slice none 0 0), .one (.slice none 0 0), .one (.slice none 0 0)] [(0, 1, (.tmp 28)), (1, 1, (.tmp 29)), (2, 1, (.tmp 30))]⟩
  (.e 4 ⟨some 32, none, .call 20 [(.tmp 31)]⟩
  (.e 6 ⟨none, none, .st 32 (.tmp 10) (.tmp 32)⟩
  .nil)))))))
def r11_6 : List J := [
  .op ⟨some 33, none, .ld 32 true (.tmp 10)⟩,
  .op ⟨some 34, none, .ld 32 true (.tmp 5)⟩,
  .op ⟨some 35, none, .ld 32 true (.tmp 8)⟩,
  .op ⟨some 36, none, .call 26 [(.tmp 33), (.tmp 34), (.tmp 35)]⟩,
  .op ⟨some 11, none, .al 63 [.ints .u8 32 (List.replicate 32 0)]⟩,
  .op ⟨none, none, .st 32 (.tmp 11) (.tmp 36)⟩]
def r11_7 : List J := [
  .op ⟨some 12, none, .al 30 [.ints .u8 64 (List.replicate 64 0)]⟩]
def r11_8 : Sch :=
  (.p [0] (.op ⟨some 37, none, .sla 64 1 (.tmp 12) none (some (.const (.int .i64 32))) none⟩)
  (.p [1] (.op ⟨some 38, none, .sla 32 1 (.tmp 9) none none none⟩)
  (.e 2 ⟨some 39, none, .cpy 1 (.tmp 37) (.tmp 38)⟩
  .nil)))
def r11_9 : Sch :=
  (.p [0] (.op ⟨some 40, none, .sla 64 1 (.tmp 12) (some (.const (.int .i64 32))) none none⟩)
  (.p [1] (.op ⟨some 41, none, .sla 32 1 (.tmp 11) none none none⟩)
  (.e 2 ⟨some 42, none, .cpy 1 (.tmp 40) (.tmp 41)⟩
  .nil)))
def r11_10 : List J := [
  .op ⟨some 43, none, .ld 64 true (.tmp 12)⟩,
  .op ⟨none, none, .st 64 (.tmp 4) (.tmp 43)⟩]
def d11 : FnD := ⟨44, [.cell 4 64 true], (.seq (.ops r11_0) (.seq (.ops r11_1) (.seq (.ops r11_2) (.seq (.ops r11_3) (.seq (.ops r11_4) (.seq (.draw r11_5 [6]) (.seq (.ops r11_6) (.seq (.ops r11_7) (.seq (.draw r11_8 [2]) (.seq (.draw r11_9 [2]) (.seq (.ops r11_10) .ret)))))))))))⟩
theorem ok11 : okF Tryd.prog 11 d11 = true := by kernel_rfl
/- farebox/sign.Public -/
def r10_0 : List J := [
  .op ⟨some 1, none, .bx 38 (.tmp 0)⟩,
  .op ⟨some 2, none, .al 27 [.ints .u8 32 (List.replicate 32 0)]⟩]
def r10_1 : List J := [
  .op ⟨some 6, none, .ld 32 true (.tmp 1)⟩,
  .op ⟨some 7, none, .call 24 [(.tmp 6)]⟩,
  .op ⟨some 5, none, .mv (.tmp 7)⟩,
  .op ⟨some 8, none, .ext (.tmp 5) 0⟩,
  .op ⟨some 9, none, .ext (.tmp 5) 1⟩,
  .op ⟨some 3, none, .al 63 [.ints .u8 32 (List.replicate 32 0)]⟩,
  .op ⟨none, none, .st 32 (.tmp 3) (.tmp 8)⟩,
  .op ⟨some 4, none, .mv (.tmp 9)⟩]
def r10_2 : List J := [
  .op ⟨some 10, none, .ld 32 true (.tmp 3)⟩,
  .op ⟨some 11, none, .call 25 [(.tmp 10)]⟩,
  .op ⟨some 12, none, .call 21 [(.tmp 11)]⟩,
  .op ⟨none, none, .st 32 (.tmp 2) (.tmp 12)⟩]
def d10 : FnD := ⟨13, [.cell 2 32 true], (.seq (.ops r10_0) (.seq (.ops r10_1) (.seq (.ops r10_2) .ret)))⟩
theorem ok10 : okF Tryd.prog 10 d10 = true := by kernel_rfl
theorem mo : Tryd.prog.follows .mixedOrders = true := by kernel_rfl
theorem ext_add : ExtF Tryd.prog 78 add64Entry := ⟨Tryd.f78, Tryd.func78, by kernel_rfl, by kernel_rfl, by kernel_rfl, by kernel_rfl⟩
theorem ext_sub : ExtF Tryd.prog 79 sub64Entry := ⟨Tryd.f79, Tryd.func79, by kernel_rfl, by kernel_rfl, by kernel_rfl, by kernel_rfl⟩
end Go.Proofs.YtiflckckekjbnaaDoor
/- Mirrors. -/
namespace Go.Proofs.YtiflckckekjbnaaDoor
open Go Go.Sx Go.RowKit
set_option linter.all false
set_option maxHeartbeats 400000
set_option maxRecDepth 100000
def ng : Nat := 3
def G_order : List Int := [6346243789798364141, 1503914060200516822, 0, 1152921504606846976]
def G_first : List Int := [7640891576956012808, 13503953896175478587, 4354685564936845355, 11912009170470909681, 5840696475078001361, 11170449401992604703, 2270897969802886507, 6620516959819538809]
def G_table : List Int := [4794697086780616226, 8158064640168781261, 13096744586834688815, 16840607885511220156, 4131703408338449720, 6480981068601479193, 10538285296894168987, 12329834152419229976, 15566598209576043074, 1334009975649890238, 2608012711638119052, 6128411473006802146, 8268148722764581231, 9286055187155687089, 11230858885718282805, 13951009754708518548, 16472876342353939154, 17275323862435702243, 1135362057144423861, 2597628984639134821, 3308224258029322869, 5365058923640841347, 6679025012923562964, 8573033837759648693, 10970295158949994411, 12119686244451234320, 12683024718118986047, 13788192230050041572, 14330467153632333762, 15395433587784984357, 489312712824947311, 1452737877330783856, 2861767655752347644, 3322285676063803686, 5560940570517711597, 5996557281743188959, 7280758554555802590, 8532644243296465576, 9350256976987008742, 10552545826968843579, 11727347734174303076, 12113106623233404929, 14000437183269869457, 14369950271660146224, 15101387698204529176, 15463397548674623760, 17586052441742319658, 1182934255886127544, 1847814050463011016, 2177327727835720531, 2830643537854262169, 3796741975233480872, 4115178125766777443, 5681478168544905931, 6601373596472566643, 7507060721942968483, 8399075790359081724, 8693463985226723168, 9568029438360202098, 10144078919501101548, 10430055236837252648, 11840083180663258601, 13761210420658862357, 14299343276471374635, 14566680578165727644, 15097957966210449927, 16922976911328602910, 17689382322260857208, 500013540394364858, 748580250866718886, 1242879168328830382, 1977374033974150939, 2944078676154940804, 3659926193048069267, 4368137639120453308, 4836135668995329356, 5532061633213252278, 6448918945643986474, 6902733635092675308, 7801388544844847127]
structure Globs (W : World) : Prop where
  g0 : Mem W 0 0 [.ints .u64 4 G_order]
  g1 : Mem W 1 0 [.ints .u64 8 G_first]
  g2 : Mem W 2 0 [.ints .u64 80 G_table]
theorem Globs.at {C : Cfg} {m : List Chunk} {w : World} (h : Globs C.W0) (hw : Sat C.W0 C.S m w) (hS : ∀ g, g < ng → g ∉ C.S) : Globs w := ⟨mem_still h.g0 (hS 0 (by decide)) hw, mem_still h.g1 (hS 1 (by decide)) hw, mem_still h.g2 (hS 2 (by decide)) hw⟩
theorem Globs.ap {C : Cfg} {m : List Chunk} {w : World} {b : Nat} {o : Obj} (h : Globs C.W0) (hS : ∀ g, g < ng → g ∉ C.S) (hb : Has b o m) (hw : Sat C.W0 C.S m w) : ∀ g, g < ng → g ∉ [b] := by
  intro g hg hm
  simp only [List.mem_singleton] at hm
  subst hm
  rcases hw.base _ hb.mem with h1 | h1
  · have h2 : ∀ g, g < ng → g < C.W0.heap.size := fun g hg => match g, hg with
      | 0, _ => h.g0.lt
      | 1, _ => h.g1.lt
      | 2, _ => h.g2.lt
    exact absurd h1 (Nat.not_le.2 (h2 _ hg))
  · exact hS _ hg h1
/- farebox/field.carry -/
def field_carry (p0 : List Int) : Option ((List Int)) :=
 bnd (p0.getD 0 0) fun z5 =>
 bnd (bitsV .and .u64 z5 2251799813685247) fun z6 =>
 bnd (p0.getD 4 0) fun z7 =>
 bnd (shrV .u64 z7 51) fun z8 =>
 bnd (IntKind.wrap .u64 (z8 * 19)) fun z9 =>
 bnd (IntKind.wrap .u64 (z6 + z9)) fun z10 =>
 bnd (p0.getD 1 0) fun z11 =>
 bnd (bitsV .and .u64 z11 2251799813685247) fun z12 =>
 bnd (p0.getD 0 0) fun z13 =>
 bnd (shrV .u64 z13 51) fun z14 =>
 bnd (IntKind.wrap .u64 (z12 + z14)) fun z15 =>
 bnd (p0.getD 2 0) fun z16 =>
 bnd (bitsV .and .u64 z16 2251799813685247) fun z17 =>
 bnd (p0.getD 1 0) fun z18 =>
 bnd (shrV .u64 z18 51) fun z19 =>
 bnd (IntKind.wrap .u64 (z17 + z19)) fun z20 =>
 bnd (p0.getD 3 0) fun z21 =>
 bnd (bitsV .and .u64 z21 2251799813685247) fun z22 =>
 bnd (p0.getD 2 0) fun z23 =>
 bnd (shrV .u64 z23 51) fun z24 =>
 bnd (IntKind.wrap .u64 (z22 + z24)) fun z25 =>
 bnd (p0.getD 4 0) fun z26 =>
 bnd (bitsV .and .u64 z26 2251799813685247) fun z27 =>
 bnd (p0.getD 3 0) fun z28 =>
 bnd (shrV .u64 z28 51) fun z29 =>
 bnd (IntKind.wrap .u64 (z27 + z29)) fun z30 =>
 bnd (([z10, z15, z20, z25, z30] : List Int)) fun z31 =>
 some z31
theorem field_carry_spec {W : World} {r : (List Int)} {p0 : List Int} (h : field_carry p0 = some r)  :
    Calls Tryd.prog 76 [agg [.ints .u64 5 (p0)]].toArray W (ret1 W (agg [.ints .u64 5 (r)])) := by
  unfold field_carry at h
  refine calls_val mo ok76 rfl ?_
  refine wc_seq ?_
  refine wc_ops ?_
  refine wj_e (ef_bx (s := [.ints .u64 5 (p0)]) rfl fun b2 hb2 => ?_)
  refine wj_e (ef_al fun b3 hb3 => ?_)
  refine wj_nil ?_
  refine wc_seq ?_
  revert h
  refine bnd_i fun z5 ez5 => ?_
  refine bnd_i fun z6 ez6 => ?_
  refine bnd_i fun z7 ez7 => ?_
  refine bnd_i fun z8 ez8 => ?_
  refine bnd_i fun z9 ez9 => ?_
  refine bnd_i fun z10 ez10 => ?_
  refine bnd_i fun z11 ez11 => ?_
  refine bnd_i fun z12 ez12 => ?_
  refine bnd_i fun z13 ez13 => ?_
  refine bnd_i fun z14 ez14 => ?_
  refine bnd_i fun z15 ez15 => ?_
  refine bnd_i fun z16 ez16 => ?_
  refine bnd_i fun z17 ez17 => ?_
  refine bnd_i fun z18 ez18 => ?_
  refine bnd_i fun z19 ez19 => ?_
  refine bnd_i fun z20 ez20 => ?_
  refine bnd_i fun z21 ez21 => ?_
  refine bnd_i fun z22 ez22 => ?_
  refine bnd_i fun z23 ez23 => ?_
  refine bnd_i fun z24 ez24 => ?_
  refine bnd_i fun z25 ez25 => ?_
  refine bnd_i fun z26 ez26 => ?_
  refine bnd_i fun z27 ez27 => ?_
  refine bnd_i fun z28 ez28 => ?_
  refine bnd_i fun z29 ez29 => ?_
  refine bnd_i fun z30 ez30 => ?_
  refine bnd_i fun z31 ez31 => ?_
  intro h
  refine wc_ops ?_
  refine wj_q _ (q_ia rfl rfl (by decide)) ?_
  refine wj_q _ (iz ez5 (q_ld1 rfl (.there .here) rfl)) ?_
  refine wj_q _ (iz ez6 (q_bin rfl rfl rfl)) ?_
  refine wj_q _ (q_ia rfl rfl (by decide)) ?_
  refine wj_q _ (iz ez7 (q_ld1 rfl (.there .here) rfl)) ?_
  refine wj_q _ (iz ez8 (q_shr rfl rfl (by decide))) ?_
  refine wj_q _ (iz ez9 (q_bin rfl rfl rfl)) ?_
  refine wj_q _ (iz ez10 (q_bin rfl rfl rfl)) ?_
  refine wj_q _ (q_ia rfl rfl (by decide)) ?_
  refine wj_q _ (iz ez11 (q_ld1 rfl (.there .here) rfl)) ?_
  refine wj_q _ (iz ez12 (q_bin rfl rfl rfl)) ?_
  refine wj_q _ (q_ia rfl rfl (by decide)) ?_
  refine wj_q _ (iz ez13 (q_ld1 rfl (.there .here) rfl)) ?_
  refine wj_q _ (iz ez14 (q_shr rfl rfl (by decide))) ?_
  refine wj_q _ (iz ez15 (q_bin rfl rfl rfl)) ?_
  refine wj_q _ (q_ia rfl rfl (by decide)) ?_
  refine wj_q _ (iz ez16 (q_ld1 rfl (.there .here) rfl)) ?_
  refine wj_q _ (iz ez17 (q_bin rfl rfl rfl)) ?_
  refine wj_q _ (q_ia rfl rfl (by decide)) ?_
  refine wj_q _ (iz ez18 (q_ld1 rfl (.there .here) rfl)) ?_
  refine wj_q _ (iz ez19 (q_shr rfl rfl (by decide))) ?_
  refine wj_q _ (iz ez20 (q_bin rfl rfl rfl)) ?_
  refine wj_q _ (q_ia rfl rfl (by decide)) ?_
  refine wj_q _ (iz ez21 (q_ld1 rfl (.there .here) rfl)) ?_
  refine wj_q _ (iz ez22 (q_bin rfl rfl rfl)) ?_
  refine wj_q _ (q_ia rfl rfl (by decide)) ?_
  refine wj_q _ (iz ez23 (q_ld1 rfl (.there .here) rfl)) ?_
  refine wj_q _ (iz ez24 (q_shr rfl rfl (by decide))) ?_
  refine wj_q _ (iz ez25 (q_bin rfl rfl rfl)) ?_
  refine wj_q _ (q_ia rfl rfl (by decide)) ?_
  refine wj_q _ (iz ez26 (q_ld1 rfl (.there .here) rfl)) ?_
  refine wj_q _ (iz ez27 (q_bin rfl rfl rfl)) ?_
  refine wj_q _ (q_ia rfl rfl (by decide)) ?_
  refine wj_q _ (iz ez28 (q_ld1 rfl (.there .here) rfl)) ?_
  refine wj_q _ (iz ez29 (q_shr rfl rfl (by decide))) ?_
  refine wj_q _ (iz ez30 (q_bin rfl rfl rfl)) ?_
  refine wj_q _ (az (fun z => agg [.ints .u64 5 z]) ez31 (q_bd (.one rfl rfl rfl (.one rfl rfl rfl (.one rfl rfl rfl (.one rfl rfl rfl (.one rfl rfl rfl BdR.nil))))))) ?_
  refine wj_e (ef_st (q := [.ints .u64 5 (z31)]) rfl rfl rfl rfl rfl .here ?_)
  refine wj_nil ?_
  refine wc_ret ?_
  revert h; refine ret_i fun h => ?_
  subst h
  exact ⟨_, (.cons (.agg rfl .here rfl) .nil), rfl⟩
/- farebox/field.reduce -/
def field_reduce_b1 (y6 : (List Int)) (k47 : (Int) → Option ((List Int))) (k70 : (Int) → (Int) → Option ((List Int))) (i68 : Int) (i69 : Int) : Option ((List Int)) :=
 br ((decide (i68 < 4))) (
 chk (inB i68 (tk y6 1 (5 - 1)).length) <|
 bnd ((tk y6 1 (5 - 1)).getD (i68).toNat 0) fun z76 =>
 bnd (IntKind.wrap .u64 (z76 + i69)) fun z78 =>
 bnd (shrV .u64 z78 51) fun z79 =>
 bnd (IntKind.wrap .i64 (i68 + 1)) fun z81 =>
 k70 z81 z79
 ) (
 k47 i69
 )
def field_reduce_l1 (y6 : (List Int)) (k47 : (Int) → Option ((List Int))) : Nat → (Int) → (Int) → Option ((List Int))
  | 0, _, _ => none
  | n + 1, i68, i69 => field_reduce_b1 y6 k47 (field_reduce_l1 y6 k47 n) i68 i69
def field_reduce_b2 (k150 : (List Int) → Option ((List Int))) (k189 : (Int) → (List Int) → Option ((List Int))) (i187 : Int) (a188 : List Int) : Option ((List Int)) :=
 br ((decide (i187 < 4))) (
 bnd (IntKind.wrap .i64 (i187 + 1)) fun z195 =>
 chk (inB z195 5) <|
 chk (inB i187 5) <|
 bnd (a188.getD (z195).toNat 0) fun z198 =>
 bnd (a188.getD (i187).toNat 0) fun z199 =>
 bnd (shrV .u64 z199 51) fun z200 =>
 bnd (IntKind.wrap .u64 (z198 + z200)) fun z201 =>
 chk (inB z195 5) <|
 bnd (setD a188 (z195).toNat z201) fun l203 =>
 chk (inB i187 5) <|
 bnd (l203.getD (i187).toNat 0) fun z206 =>
 bnd (bitsV .and .u64 z206 2251799813685247) fun z207 =>
 chk (inB i187 5) <|
 bnd (setD l203 (i187).toNat z207) fun l209 =>
 bnd (IntKind.wrap .i64 (i187 + 1)) fun z211 =>
 k189 z211 l209
 ) (
 k150 a188
 )
def field_reduce_l2 (k150 : (List Int) → Option ((List Int))) : Nat → (Int) → (List Int) → Option ((List Int))
  | 0, _, _ => none
  | n + 1, i187, a188 => field_reduce_b2 k150 (field_reduce_l2 k150 n) i187 a188
def field_reduce (p0 : List Int) : Option ((List Int)) :=
 opt (field_carry p0) fun y5 =>
 opt (field_carry y5) fun y6 =>
 bnd (y6.getD 0 0) fun z8 =>
 bnd (IntKind.wrap .u64 (z8 + 19)) fun z9 =>
 bnd (shrV .u64 z9 51) fun z10 =>
 jn (fun (i46 : Int) => bnd (y6.getD 0 0) fun z83 =>
 bnd (IntKind.wrap .u64 (19 * i46)) fun z84 =>
 bnd (IntKind.wrap .u64 (z83 + z84)) fun z85 =>
 bnd (setD y6 0 z85) fun l86 =>
 jn (fun (a149 : List Int) => bnd (a149.getD 4 0) fun z213 =>
 bnd (bitsV .and .u64 z213 2251799813685247) fun z214 =>
 bnd (setD a149 4 z214) fun l215 =>
 some l215) fun k150 => field_reduce_l2 k150 big 0 l86) fun k47 => field_reduce_l1 y6 k47 big 0 z10
theorem field_reduce_spec {W : World} {r : (List Int)} {p0 : List Int} (h : field_reduce p0 = some r)  :
    Calls Tryd.prog 70 [agg [.ints .u64 5 (p0)]].toArray W (ret1 W (agg [.ints .u64 5 (r)])) := by
  unfold field_reduce at h
  refine calls_val mo ok70 rfl ?_
  refine wc_seq ?_
  refine wc_ops ?_
  refine wj_e (ef_bx (s := [.ints .u64 5 (p0)]) rfl fun b2 hb2 => ?_)
  refine wj_e (ef_al fun b3 hb3 => ?_)
  refine wj_nil ?_
  refine wc_seq ?_
  revert h
  refine opt_i fun y5 ey5 => ?_
  refine opt_i fun y6 ey6 => ?_
  intro h
  refine wc_ops ?_
  refine wj_q _ (q_ld (p := [.ints .u64 5 (p0)]) rfl (.there .here) rfl) ?_
  refine wj_q _ (q_call (vs := [agg [.ints .u64 5 (p0)]]) (v := agg [.ints .u64 5 (y5)]) rfl (fun w hw => field_carry_spec (r := y5) (p0 := p0) ey5 )) ?_
  refine wj_q _ (q_call (vs := [agg [.ints .u64 5 (y5)]]) (v := agg [.ints .u64 5 (y6)]) rfl (fun w hw => field_carry_spec (r := y6) (p0 := y5) ey6 )) ?_
  refine wj_e (ef_st (q := [.ints .u64 5 (y6)]) rfl rfl rfl rfl rfl (.there .here) ?_)
  refine wj_nil ?_
  refine wc_seq ?_
  revert h
  refine bnd_i fun z8 ez8 => ?_
  refine bnd_i fun z9 ez9 => ?_
  refine bnd_i fun z10 ez10 => ?_
  intro h
  refine wc_ops ?_
  refine wj_q _ (q_ia rfl rfl (by decide)) ?_
  refine wj_q _ (iz ez8 (q_ld1 rfl (.there .here) rfl)) ?_
  refine wj_q _ (iz ez9 (q_bin rfl rfl rfl)) ?_
  refine wj_q _ (iz ez10 (q_shr rfl rfl (by decide))) ?_
  refine wj_q _ (q_mv rfl) ?_
  refine wj_nil ?_
  refine wc_seq ?_
  refine wc_seq ?_
  refine wc_ops ?_
  refine wj_q _ (q_sla rfl (.yes rfl) .no .no (by simp) (by decide)) ?_
  refine wj_q _ (q_len rfl) ?_
  refine wj_q _ (q_mv rfl) ?_
  refine wj_nil ?_
  revert h
  refine jn_i fun k47 qk47 => ?_
  intro h
  refine wc_mono2 (G := fun t m => ∃ (i46 : Int), k47 i46 = some r ∧ Fit [(1, .pointer (some ⟨b2, 0, none⟩)), (2, .pointer (some ⟨b3, 0, none⟩)), (3, .int .u64 (i46))] (ck b3 58 [.ints .u64 5 ((List.replicate 5 0))] :: (ck b2 58 [.ints .u64 5 (y6)] :: [])) t m) ?_ ?_
  · refine wc_block ?_
    refine wc_loopJ (fun n71 t m => ∃ (i68 : Int) (i69 : Int), field_reduce_l1 y6 k47 n71 i68 i69 = some r ∧ Fit [(1, .pointer (some ⟨b2, 0, none⟩)), (2, .pointer (some ⟨b3, 0, none⟩)), (3, .int .u64 (i69)), (14, (.slice (some (slAddr b2 0 1 5 1)) (5 - 1) (5 - 1))), (15, .int .i64 4), (16, .int .i64 (i68))] (ck b3 58 [.ints .u64 5 ((List.replicate 5 0))] :: (ck b2 58 [.ints .u64 5 (y6)] :: [])) t m) big ?_ ?_
    · exact ⟨0, z10, h, ⟨⟨rfl, rfl, rfl, rfl, rfl, rfl, trivial⟩, (.one .here (.one .here .nil))⟩⟩
    · rintro n71 t m ⟨i68, i69, h, hF⟩
      refine wc_fit hF ?_
      clear hF
      rcases n71 with _ | n71
      · exact none_i h
      have h : field_reduce_b1 y6 k47 (field_reduce_l1 y6 k47 n71) i68 i69 = some r := h
      unfold field_reduce_b1 at h
      obtain ⟨k70, qk70⟩ : ∃ k, k = field_reduce_l1 y6 k47 n71 := ⟨_, rfl⟩
      try rw [← qk70] at h
      refine wc_seq ?_
      refine wc_ops ?_
      refine wj_q _ (q_bin rfl rfl rfl) ?_
      refine wj_nil ?_
      refine wc_seq ?_
      refine wc_if (c := (decide (i68 < 4))) rfl (fun d73 => ?_) (fun d73 => ?_)
      · have h := br_t h d73
        refine wc_skip ?_
        refine wc_seq ?_
        refine wc_block ?_
        refine wc_seq ?_
        revert h
        refine chk_i fun c75 => ?_
        refine bnd_i fun z76 ez76 => ?_
        intro h
        refine wc_ops ?_
        refine wj_q _ (q_iasP rfl rfl (Shp.blk (lo := 1) (hi := 5) (mz := 5) (by decide) (by simp [tk_length])) c75) ?_
        refine wj_q _ (iz ez76 (q_ldM10 (E := (El.int .u64)) (s := [.one (.int .u64 ((tk y6 1 (5 - 1)).getD (i68).toNat 0))]) rfl (rd_blk_i (s := [.ints .u64 5 (y6)]) (N := 5) (k := .u64) (base := 0) (lo := 1) (hi := 5) (mz := 5) (.there .here) rfl (by decide)) (inB_n c75) rfl rfl)) ?_
        refine wj_q _ (q_mv rfl) ?_
        refine wj_nil ?_
        revert h
        refine bnd_i fun z78 ez78 => ?_
        refine bnd_i fun z79 ez79 => ?_
        intro h
        refine wc_ops ?_
        refine wj_q _ (q_mv rfl) ?_
        refine wj_q _ (q_mv rfl) ?_
        refine wj_q _ (iz ez78 (q_bin rfl rfl rfl)) ?_
        refine wj_q _ (iz ez79 (q_shr rfl rfl (by decide))) ?_
        refine wj_q _ (q_mv rfl) ?_
        refine wj_nil ?_
        revert h
        refine bnd_i fun z81 ez81 => ?_
        intro h
        refine wc_ops ?_
        refine wj_q _ (iz ez81 (q_bin rfl rfl rfl)) ?_
        refine wj_q _ (q_mv rfl) ?_
        refine wj_nil ?_
        rw [qk70] at h
        exact ⟨n71, Nat.lt_succ_self _, z81, z79, h, ⟨⟨rfl, rfl, rfl, rfl, rfl, rfl, trivial⟩, (.one .here (.one .here .nil))⟩⟩
      · have h := br_f h d73
        refine wc_exit _ rfl ?_
        exact ⟨i69, h, ⟨⟨rfl, rfl, rfl, trivial⟩, (.one .here (.one .here .nil))⟩⟩
  · rintro t m ⟨i46, h, hF⟩
    refine wc_fit hF ?_
    clear hF
    subst qk47
    refine wc_seq ?_
    revert h
    refine bnd_i fun z83 ez83 => ?_
    refine bnd_i fun z84 ez84 => ?_
    refine bnd_i fun z85 ez85 => ?_
    refine bnd_i fun l86 el86 => ?_
    intro h
    refine wc_ops ?_
    refine wj_q _ (q_ia rfl rfl (by decide)) ?_
    refine wj_q _ (iz ez83 (q_ld1 rfl (.there .here) rfl)) ?_
    refine wj_q _ (q_mv rfl) ?_
    refine wj_q _ (iz ez84 (q_bin rfl rfl rfl)) ?_
    refine wj_q _ (iz ez85 (q_bin rfl rfl rfl)) ?_
    refine wj_q _ (q_ia rfl rfl (by decide)) ?_
    refine wj_e (ef_st1z (q := [.ints .u64 5 (l86)]) (congrArg (fun z => ([.ints .u64 5 (z)] : List Seg)) el86.symm) rfl rfl rfl rfl (.there .here) ?_)
    refine wj_nil ?_
    refine wc_seq ?_
    refine wc_seq ?_
    refine wc_ops ?_
    refine wj_q _ (q_mv rfl) ?_
    refine wj_nil ?_
    revert h
    refine jn_i fun k150 qk150 => ?_
    intro h
    refine wc_mono2 (G := fun t m => ∃ (a149 : List Int), k150 a149 = some r ∧ Fit [(1, .pointer (some ⟨b2, 0, none⟩)), (2, .pointer (some ⟨b3, 0, none⟩))] (ck b3 58 [.ints .u64 5 ((List.replicate 5 0))] :: (ck b2 58 [.ints .u64 5 (a149)] :: [])) t m) ?_ ?_
    · refine wc_block ?_
      refine wc_loopJ (fun n190 t m => ∃ (i187 : Int) (a188 : List Int), field_reduce_l2 k150 n190 i187 a188 = some r ∧ Fit [(1, .pointer (some ⟨b2, 0, none⟩)), (2, .pointer (some ⟨b3, 0, none⟩)), (31, .int .i64 (i187))] (ck b3 58 [.ints .u64 5 ((List.replicate 5 0))] :: (ck b2 58 [.ints .u64 5 (a188)] :: [])) t m) big ?_ ?_
      · exact ⟨0, l86, h, ⟨⟨rfl, rfl, rfl, trivial⟩, (.one .here (.one .here .nil))⟩⟩
      · rintro n190 t m ⟨i187, a188, h, hF⟩
        refine wc_fit hF ?_
        clear hF
        rcases n190 with _ | n190
        · exact none_i h
        have h : field_reduce_b2 k150 (field_reduce_l2 k150 n190) i187 a188 = some r := h
        unfold field_reduce_b2 at h
        obtain ⟨k189, qk189⟩ : ∃ k, k = field_reduce_l2 k150 n190 := ⟨_, rfl⟩
        try rw [← qk189] at h
        refine wc_seq ?_
        refine wc_ops ?_
        refine wj_q _ (q_bin rfl rfl rfl) ?_
        refine wj_nil ?_
        refine wc_seq ?_
        refine wc_if (c := (decide (i187 < 4))) rfl (fun d192 => ?_) (fun d192 => ?_)
        · have h := br_t h d192
          refine wc_skip ?_
          refine wc_seq ?_
          refine wc_block ?_
          refine wc_seq ?_
          refine wc_ops ?_
          refine wj_q _ (q_mv rfl) ?_
          refine wj_q _ (q_mv rfl) ?_
          refine wj_nil ?_
          refine wc_seq ?_
          revert h
          refine bnd_i fun z195 ez195 => ?_
          refine chk_i fun c196 => ?_
          refine chk_i fun c197 => ?_
          refine bnd_i fun z198 ez198 => ?_
          refine bnd_i fun z199 ez199 => ?_
          refine bnd_i fun z200 ez200 => ?_
          refine bnd_i fun z201 ez201 => ?_
          refine chk_i fun c202 => ?_
          refine bnd_i fun l203 el203 => ?_
          intro h
          refine wc_draw ?_
          refine ws_p1 _ (q_mv rfl) ?_
          refine ws_p1 _ (iz ez195 (q_bin rfl rfl rfl)) ?_
          refine ws_p1 _ (q_ia rfl rfl (inB_z c196)) ?_
          refine ws_p1 _ (q_mv rfl) ?_
          refine ws_p1 _ (q_ia rfl rfl (inB_z c197)) ?_
          refine ws_q1 _ (iz ez198 (q_ldi (base := 0) rfl (.there .here) rfl (inB_n c196))) ?_
          refine ws_q1 _ (iz ez199 (q_ldi (base := 0) rfl (.there .here) rfl (inB_n c197))) ?_
          refine ws_p1 _ (iz ez200 (q_shr rfl rfl (by decide))) ?_
          refine ws_p1 _ (iz ez201 (q_bin rfl rfl rfl)) ?_
          refine ws_p1 _ (q_ia rfl rfl (inB_z c202)) ?_
          refine ws_eL rfl (ef_stiz (q := [.ints .u64 5 (l203)]) (base := 0) el203 rfl rfl rfl (inB_n c202) rfl (.there .here) ?_)
          refine ws_nil ?_
          revert h
          refine chk_i fun c205 => ?_
          refine bnd_i fun z206 ez206 => ?_
          refine bnd_i fun z207 ez207 => ?_
          refine chk_i fun c208 => ?_
          refine bnd_i fun l209 el209 => ?_
          intro h
          refine wc_ops ?_
          refine wj_q _ (q_mv rfl) ?_
          refine wj_q _ (q_ia rfl rfl (inB_z c205)) ?_
          refine wj_q _ (iz ez206 (q_ldi (base := 0) rfl (.there .here) rfl (inB_n c205))) ?_
          refine wj_q _ (iz ez207 (q_bin rfl rfl rfl)) ?_
          refine wj_q _ (q_ia rfl rfl (inB_z c208)) ?_
          refine wj_e (ef_stiz (q := [.ints .u64 5 (l209)]) (base := 0) el209 rfl rfl rfl (inB_n c208) rfl (.there .here) ?_)
          refine wj_nil ?_
          revert h
          refine bnd_i fun z211 ez211 => ?_
          intro h
          refine wc_ops ?_
          refine wj_q _ (iz ez211 (q_bin rfl rfl rfl)) ?_
          refine wj_q _ (q_mv rfl) ?_
          refine wj_nil ?_
          rw [qk189] at h
          exact ⟨n190, Nat.lt_succ_self _, z211, l209, h, ⟨⟨rfl, rfl, rfl, trivial⟩, (.one .here (.one .here .nil))⟩⟩
        · have h := br_f h d192
          refine wc_exit _ rfl ?_
          exact ⟨a188, h, ⟨⟨rfl, rfl, trivial⟩, (.one .here (.one .here .nil))⟩⟩
    · rintro t m ⟨a149, h, hF⟩
      refine wc_fit hF ?_
      clear hF
      subst qk150
      refine wc_seq ?_
      revert h
      refine bnd_i fun z213 ez213 => ?_
      refine bnd_i fun z214 ez214 => ?_
      refine bnd_i fun l215 el215 => ?_
      intro h
      refine wc_ops ?_
      refine wj_q _ (q_ia rfl rfl (by decide)) ?_
      refine wj_q _ (iz ez213 (q_ld1 rfl (.there .here) rfl)) ?_
      refine wj_q _ (iz ez214 (q_bin rfl rfl rfl)) ?_
      refine wj_q _ (q_ia rfl rfl (by decide)) ?_
      refine wj_e (ef_st1z (q := [.ints .u64 5 (l215)]) (congrArg (fun z => ([.ints .u64 5 (z)] : List Seg)) el215.symm) rfl rfl rfl rfl (.there .here) ?_)
      refine wj_nil ?_
      refine wc_seq ?_
      refine wc_ops ?_
      refine wj_q _ (q_ld (p := [.ints .u64 5 (l215)]) rfl (.there .here) rfl) ?_
      refine wj_e (ef_st (q := [.ints .u64 5 (l215)]) rfl rfl rfl rfl rfl .here ?_)
      refine wj_nil ?_
      refine wc_ret ?_
      revert h; refine ret_i fun h => ?_
      subst h
      exact ⟨_, (.cons (.agg rfl .here rfl) .nil), rfl⟩
/- farebox/field.FromBytes -/
def field_FromBytes_b1 (p0 : List Int) (k214 : (List Int) → Option ((List Int))) (k333 : (Int) → (List Int) → Option ((List Int))) (i331 : Int) (a332 : List Int) : Option ((List Int)) :=
 br ((decide (i331 < 32))) (
 jn (fun (a377 : List Int) => bnd (IntKind.wrap .i64 (i331 + 1)) fun z420 =>
 k333 z420 a377) fun k378 => chk (inB i331 32) <|
 bnd (p0.getD (i331).toNat 0) fun z381 =>
 jn (fun (i386 : Int) => bnd (IntKind.wrap .i64 (8 * i331)) fun z392 =>
 bnd (IntKind.wrap .i64 (Int.tdiv z392 51)) fun z393 =>
 bnd (IntKind.wrap .i64 (8 * i331)) fun z394 =>
 bnd (Int.tmod z394 51) fun z395 =>
 chk (inB z393 5) <|
 bnd (IntKind.wrap .u64 i386) fun z398 =>
 chk (decide (0 ≤ z395)) <|
 bnd (shlV .u64 z398 z395) fun z400 =>
 bnd (bitsV .and .u64 z400 2251799813685247) fun z401 =>
 bnd (a332.getD (z393).toNat 0) fun z402 =>
 bnd (bitsV .or .u64 z402 z401) fun z403 =>
 chk (inB z393 5) <|
 bnd (setD a332 (z393).toNat z403) fun l405 =>
 br (((decide (z395 > 43)) && (decide (z393 < 4)))) (
 bnd (IntKind.wrap .i64 (z393 + 1)) fun z409 =>
 chk (inB z409 5) <|
 bnd (IntKind.wrap .u64 i386) fun z411 =>
 bnd (IntKind.wrap .i64 (51 - z395)) fun z412 =>
 chk (decide (0 ≤ z412)) <|
 bnd (shrV .u64 z411 z412) fun z414 =>
 bnd (l405.getD (z409).toNat 0) fun z415 =>
 bnd (bitsV .or .u64 z415 z414) fun z416 =>
 chk (inB z409 5) <|
 bnd (setD l405 (z409).toNat z416) fun l418 =>
 k378 l418
 ) (
 k378 l405
 )) fun k387 => br ((i331 == 31)) (
 bnd (bitsV .and .u8 z381 127) fun z390 =>
 k387 z390
 ) (
 k387 z381
 )
 ) (
 k214 a332
 )
def field_FromBytes_l1 (p0 : List Int) (k214 : (List Int) → Option ((List Int))) : Nat → (Int) → (List Int) → Option ((List Int))
  | 0, _, _ => none
  | n + 1, i331, a332 => field_FromBytes_b1 p0 k214 (field_FromBytes_l1 p0 k214 n) i331 a332
def field_FromBytes (p0 : List Int) : Option ((List Int)) :=
 jn (fun (a213 : List Int) => opt (field_reduce a213) fun y422 =>
 some y422) fun k214 => field_FromBytes_l1 p0 k214 big 0 (List.replicate 5 0)
theorem field_FromBytes_spec {W : World} {r : (List Int)} {p0 : List Int} (h : field_FromBytes p0 = some r)  :
    Calls Tryd.prog 33 [agg [.ints .u8 32 (p0)]].toArray W (ret1 W (agg [.ints .u64 5 (r)])) := by
  unfold field_FromBytes at h
  refine calls_val mo ok33 rfl ?_
  refine wc_seq ?_
  refine wc_ops ?_
  refine wj_e (ef_bx (s := [.ints .u8 32 (p0)]) rfl fun b2 hb2 => ?_)
  refine wj_e (ef_al fun b3 hb3 => ?_)
  refine wj_nil ?_
  refine wc_seq ?_
  refine wc_ops ?_
  refine wj_e (ef_al fun b5 hb5 => ?_)
  refine wj_nil ?_
  refine wc_seq ?_
  refine wc_seq ?_
  refine wc_ops ?_
  refine wj_q _ (q_ld (p := [.ints .u8 32 (p0)]) rfl (.there (.there .here)) rfl) ?_
  refine wj_q _ (q_mv rfl) ?_
  refine wj_nil ?_
  revert h
  refine jn_i fun k214 qk214 => ?_
  intro h
  refine wc_mono2 (G := fun t m => ∃ (a213 : List Int), k214 a213 = some r ∧ Fit [(2, .pointer (some ⟨b3, 0, none⟩)), (3, .pointer (some ⟨b5, 0, none⟩))] (ck b5 58 [.ints .u64 5 (a213)] :: (ck b3 58 [.ints .u64 5 ((List.replicate 5 0))] :: (ck b2 26 [.ints .u8 32 (p0)] :: []))) t m) ?_ ?_
  · refine wc_block ?_
    refine wc_loopJ (fun n334 t m => ∃ (i331 : Int) (a332 : List Int), field_FromBytes_l1 p0 k214 n334 i331 a332 = some r ∧ Fit [(2, .pointer (some ⟨b3, 0, none⟩)), (3, .pointer (some ⟨b5, 0, none⟩)), (8, agg [.ints .u8 32 (p0)]), (9, .int .i64 (i331))] (ck b5 58 [.ints .u64 5 (a332)] :: (ck b3 58 [.ints .u64 5 ((List.replicate 5 0))] :: (ck b2 26 [.ints .u8 32 (p0)] :: []))) t m) big ?_ ?_
    · exact ⟨0, (List.replicate 5 0), h, ⟨⟨rfl, rfl, rfl, rfl, trivial⟩, (.one .here (.one .here (.one .here .nil)))⟩⟩
    · rintro n334 t m ⟨i331, a332, h, hF⟩
      refine wc_fit hF ?_
      clear hF
      rcases n334 with _ | n334
      · exact none_i h
      have h : field_FromBytes_b1 p0 k214 (field_FromBytes_l1 p0 k214 n334) i331 a332 = some r := h
      unfold field_FromBytes_b1 at h
      obtain ⟨k333, qk333⟩ : ∃ k, k = field_FromBytes_l1 p0 k214 n334 := ⟨_, rfl⟩
      try rw [← qk333] at h
      refine wc_seq ?_
      refine wc_ops ?_
      refine wj_q _ (q_bin rfl rfl rfl) ?_
      refine wj_nil ?_
      refine wc_seq ?_
      refine wc_if (c := (decide (i331 < 32))) rfl (fun d336 => ?_) (fun d336 => ?_)
      · have h := br_t h d336
        refine wc_skip ?_
        refine wc_seq ?_
        revert h
        refine jn_i fun k378 qk378 => ?_
        intro h
        refine wc_mono2 (G := fun t m => ∃ (a377 : List Int), k378 a377 = some r ∧ Fit [(2, .pointer (some ⟨b3, 0, none⟩)), (3, .pointer (some ⟨b5, 0, none⟩)), (8, agg [.ints .u8 32 (p0)]), (9, .int .i64 (i331))] (ck b5 58 [.ints .u64 5 (a377)] :: (ck b3 58 [.ints .u64 5 ((List.replicate 5 0))] :: (ck b2 26 [.ints .u8 32 (p0)] :: []))) t m) ?_ ?_
        · refine wc_block ?_
          refine wc_seq ?_
          revert h
          refine chk_i fun c380 => ?_
          refine bnd_i fun z381 ez381 => ?_
          intro h
          refine wc_ops ?_
          refine wj_q _ (q_mv rfl) ?_
          refine wj_q _ (iz ez381 (q_idxi (len := 32) rfl rfl (inB_z c380))) ?_
          refine wj_q _ (q_mv rfl) ?_
          refine wj_q _ (q_mv rfl) ?_
          refine wj_nil ?_
          refine wc_seq ?_
          refine wc_seq ?_
          refine wc_ops ?_
          refine wj_q _ (q_mv rfl) ?_
          refine wj_q _ (q_bin rfl rfl rfl) ?_
          refine wj_nil ?_
          revert h
          refine jn_i fun k387 qk387 => ?_
          intro h
          refine wc_mono2 (G := fun t m => ∃ (i386 : Int), k387 i386 = some r ∧ Fit [(2, .pointer (some ⟨b3, 0, none⟩)), (3, .pointer (some ⟨b5, 0, none⟩)), (4, .int .i64 (i331)), (5, .int .u8 (i386)), (8, agg [.ints .u8 32 (p0)]), (9, .int .i64 (i331))] (ck b5 58 [.ints .u64 5 (a332)] :: (ck b3 58 [.ints .u64 5 ((List.replicate 5 0))] :: (ck b2 26 [.ints .u8 32 (p0)] :: []))) t m) ?_ ?_
          · refine wc_if (c := (i331 == 31)) rfl (fun d388 => ?_) (fun d388 => ?_)
            · have h := br_t h d388
              revert h
              refine bnd_i fun z390 ez390 => ?_
              intro h
              refine wc_ops ?_
              refine wj_q _ (q_mv rfl) ?_
              refine wj_q _ (iz ez390 (q_bin rfl rfl rfl)) ?_
              refine wj_q _ (q_mv rfl) ?_
              refine wj_nil ?_
              exact ⟨z390, h, ⟨⟨rfl, rfl, rfl, rfl, rfl, rfl, trivial⟩, (.one .here (.one .here (.one .here .nil)))⟩⟩
            · have h := br_f h d388
              refine wc_skip ?_
              exact ⟨z381, h, ⟨⟨rfl, rfl, rfl, rfl, rfl, rfl, trivial⟩, (.one .here (.one .here (.one .here .nil)))⟩⟩
          · rintro t m ⟨i386, h, hF⟩
            refine wc_fit hF ?_
            clear hF
            subst qk387
            refine wc_seq ?_
            revert h
            refine bnd_i fun z392 ez392 => ?_
            refine bnd_i fun z393 ez393 => ?_
            refine bnd_i fun z394 ez394 => ?_
            refine bnd_i fun z395 ez395 => ?_
            intro h
            refine wc_ops ?_
            refine wj_q _ (q_mv rfl) ?_
            refine wj_q _ (iz ez392 (q_bin rfl rfl rfl)) ?_
            refine wj_q _ (iz ez393 (q_quo rfl rfl (by decide))) ?_
            refine wj_q _ (q_mv rfl) ?_
            refine wj_q _ (iz ez394 (q_bin rfl rfl rfl)) ?_
            refine wj_q _ (iz ez395 (q_rem rfl rfl (by decide))) ?_
            refine wj_q _ (q_mv rfl) ?_
            refine wj_q _ (q_mv rfl) ?_
            refine wj_nil ?_
            refine wc_seq ?_
            revert h
            refine chk_i fun c397 => ?_
            refine bnd_i fun z398 ez398 => ?_
            refine chk_i fun c399 => ?_
            refine bnd_i fun z400 ez400 => ?_
            refine bnd_i fun z401 ez401 => ?_
            refine bnd_i fun z402 ez402 => ?_
            refine bnd_i fun z403 ez403 => ?_
            refine chk_i fun c404 => ?_
            refine bnd_i fun l405 el405 => ?_
            intro h
            refine wc_draw ?_
            refine ws_p1 _ (q_mv rfl) ?_
            refine ws_p1 _ (q_ia rfl rfl (inB_z c397)) ?_
            refine ws_p1 _ (q_mv rfl) ?_
            refine ws_p1 _ (iz ez398 (q_conv rfl)) ?_
            refine ws_p1 _ (q_mv rfl) ?_
            refine ws_p1 _ (iz ez400 (q_shl rfl rfl (of_decide_eq_true c399))) ?_
            refine ws_p1 _ (iz ez401 (q_bin rfl rfl rfl)) ?_
            refine ws_q1 _ (iz ez402 (q_ldi (base := 0) rfl .here rfl (inB_n c397))) ?_
            refine ws_p1 _ (iz ez403 (q_bin rfl rfl rfl)) ?_
            refine ws_p1 _ (q_ia rfl rfl (inB_z c404)) ?_
            refine ws_eL rfl (ef_stiz (q := [.ints .u64 5 (l405)]) (base := 0) el405 rfl rfl rfl (inB_n c404) rfl .here ?_)
            refine ws_nil ?_
            refine wc_seq ?_
            refine wc_ops ?_
            refine wj_q _ (q_mv rfl) ?_
            refine wj_q _ (q_bin rfl rfl rfl) ?_
            refine wj_q _ (q_mv rfl) ?_
            refine wj_and rfl rfl rfl (fun hg1 => qj_g rfl _ (q_mv rfl) (qj_g rfl _ (q_bin rfl rfl rfl) (qj_nil))) (fun hg1 => rfl) rfl ?_
            refine wj_nil ?_
            refine wc_if (c := ((decide (z395 > 43)) && (decide (z393 < 4)))) rfl (fun d407 => ?_) (fun d407 => ?_)
            · have h := br_t h d407
              revert h
              refine bnd_i fun z409 ez409 => ?_
              refine chk_i fun c410 => ?_
              refine bnd_i fun z411 ez411 => ?_
              refine bnd_i fun z412 ez412 => ?_
              refine chk_i fun c413 => ?_
              refine bnd_i fun z414 ez414 => ?_
              refine bnd_i fun z415 ez415 => ?_
              refine bnd_i fun z416 ez416 => ?_
              refine chk_i fun c417 => ?_
              refine bnd_i fun l418 el418 => ?_
              intro h
              refine wc_draw ?_
              refine ws_p1 _ (q_mv rfl) ?_
              refine ws_p1 _ (iz ez409 (q_bin rfl rfl rfl)) ?_
              refine ws_p1 _ (q_ia rfl rfl (inB_z c410)) ?_
              refine ws_p1 _ (q_mv rfl) ?_
              refine ws_p1 _ (iz ez411 (q_conv rfl)) ?_
              refine ws_p1 _ (q_mv rfl) ?_
              refine ws_p1 _ (iz ez412 (q_bin rfl rfl rfl)) ?_
              refine ws_p1 _ (iz ez414 (q_shr rfl rfl (of_decide_eq_true c413))) ?_
              refine ws_q1 _ (iz ez415 (q_ldi (base := 0) rfl .here rfl (inB_n c410))) ?_
              refine ws_p1 _ (iz ez416 (q_bin rfl rfl rfl)) ?_
              refine ws_p1 _ (q_ia rfl rfl (inB_z c417)) ?_
              refine ws_eL rfl (ef_stiz (q := [.ints .u64 5 (l418)]) (base := 0) el418 rfl rfl rfl (inB_n c417) rfl .here ?_)
              refine ws_nil ?_
              exact ⟨l418, h, ⟨⟨rfl, rfl, rfl, rfl, trivial⟩, (.one .here (.one .here (.one .here .nil)))⟩⟩
            · have h := br_f h d407
              refine wc_skip ?_
              exact ⟨l405, h, ⟨⟨rfl, rfl, rfl, rfl, trivial⟩, (.one .here (.one .here (.one .here .nil)))⟩⟩
        · rintro t m ⟨a377, h, hF⟩
          refine wc_fit hF ?_
          clear hF
          subst qk378
          revert h
          refine bnd_i fun z420 ez420 => ?_
          intro h
          refine wc_ops ?_
          refine wj_q _ (iz ez420 (q_bin rfl rfl rfl)) ?_
          refine wj_q _ (q_mv rfl) ?_
          refine wj_nil ?_
          rw [qk333] at h
          exact ⟨n334, Nat.lt_succ_self _, z420, a377, h, ⟨⟨rfl, rfl, rfl, rfl, trivial⟩, (.one .here (.one .here (.one .here .nil)))⟩⟩
      · have h := br_f h d336
        refine wc_exit _ rfl ?_
        exact ⟨a332, h, ⟨⟨rfl, rfl, trivial⟩, (.one .here (.one .here (.one .here .nil)))⟩⟩
  · rintro t m ⟨a213, h, hF⟩
    refine wc_fit hF ?_
    clear hF
    subst qk214
    refine wc_seq ?_
    revert h
    refine opt_i fun y422 ey422 => ?_
    intro h
    refine wc_ops ?_
    refine wj_q _ (q_ld (p := [.ints .u64 5 (a213)]) rfl .here rfl) ?_
    refine wj_q _ (q_call (vs := [agg [.ints .u64 5 (a213)]]) (v := agg [.ints .u64 5 (y422)]) rfl (fun w hw => field_reduce_spec (r := y422) (p0 := a213) ey422 )) ?_
    refine wj_e (ef_st (q := [.ints .u64 5 (y422)]) rfl rfl rfl rfl rfl (.there .here) ?_)
    refine wj_nil ?_
    refine wc_ret ?_
    revert h; refine ret_i fun h => ?_
    subst h
    exact ⟨_, (.cons (.agg rfl (.there .here) rfl) .nil), rfl⟩
/- farebox/field.Bytes -/
def field_Bytes_b1 (y5 : (List Int)) (k107 : (List Int) → Option ((List Int))) (k163 : (Int) → (List Int) → Option ((List Int))) (i161 : Int) (a162 : List Int) : Option ((List Int)) :=
 br ((decide (i161 < 32))) (
 bnd (IntKind.wrap .i64 (8 * i161)) fun z169 =>
 bnd (IntKind.wrap .i64 (Int.tdiv z169 51)) fun z170 =>
 bnd (IntKind.wrap .i64 (8 * i161)) fun z171 =>
 bnd (Int.tmod z171 51) fun z172 =>
 chk (inB z170 5) <|
 bnd (y5.getD (z170).toNat 0) fun z175 =>
 chk (decide (0 ≤ z172)) <|
 bnd (shrV .u64 z175 z172) fun z177 =>
 jn (fun (i188 : Int) => bnd (IntKind.wrap .u8 i188) fun z200 =>
 chk (inB i161 32) <|
 bnd (setD a162 (i161).toNat z200) fun l202 =>
 bnd (IntKind.wrap .i64 (i161 + 1)) fun z204 =>
 k163 z204 l202) fun k189 => br (((decide (z172 > 43)) && (decide (z170 < 4)))) (
 bnd (IntKind.wrap .i64 (z170 + 1)) fun z192 =>
 chk (inB z192 5) <|
 bnd (y5.getD (z192).toNat 0) fun z194 =>
 bnd (IntKind.wrap .i64 (51 - z172)) fun z195 =>
 chk (decide (0 ≤ z195)) <|
 bnd (shlV .u64 z194 z195) fun z197 =>
 bnd (bitsV .or .u64 z177 z197) fun z198 =>
 k189 z198
 ) (
 k189 z177
 )
 ) (
 k107 a162
 )
def field_Bytes_l1 (y5 : (List Int)) (k107 : (List Int) → Option ((List Int))) : Nat → (Int) → (List Int) → Option ((List Int))
  | 0, _, _ => none
  | n + 1, i161, a162 => field_Bytes_b1 y5 k107 (field_Bytes_l1 y5 k107 n) i161 a162
def field_Bytes (p0 : List Int) : Option ((List Int)) :=
 opt (field_reduce p0) fun y5 =>
 jn (fun (a106 : List Int) => some a106) fun k107 => field_Bytes_l1 y5 k107 big 0 (List.replicate 32 0)
theorem field_Bytes_spec {W : World} {r : (List Int)} {p0 : List Int} (h : field_Bytes p0 = some r)  :
    Calls Tryd.prog 50 [agg [.ints .u64 5 (p0)]].toArray W (ret1 W (agg [.ints .u8 32 (r)])) := by
  unfold field_Bytes at h
  refine calls_val mo ok50 rfl ?_
  refine wc_seq ?_
  refine wc_ops ?_
  refine wj_e (ef_bx (s := [.ints .u64 5 (p0)]) rfl fun b2 hb2 => ?_)
  refine wj_e (ef_al fun b3 hb3 => ?_)
  refine wj_nil ?_
  refine wc_seq ?_
  revert h
  refine opt_i fun y5 ey5 => ?_
  intro h
  refine wc_ops ?_
  refine wj_q _ (q_ld (p := [.ints .u64 5 (p0)]) rfl (.there .here) rfl) ?_
  refine wj_q _ (q_call (vs := [agg [.ints .u64 5 (p0)]]) (v := agg [.ints .u64 5 (y5)]) rfl (fun w hw => field_reduce_spec (r := y5) (p0 := p0) ey5 )) ?_
  refine wj_e (ef_st (q := [.ints .u64 5 (y5)]) rfl rfl rfl rfl rfl (.there .here) ?_)
  refine wj_nil ?_
  refine wc_seq ?_
  refine wc_ops ?_
  refine wj_e (ef_al fun b7 hb7 => ?_)
  refine wj_nil ?_
  refine wc_seq ?_
  refine wc_seq ?_
  refine wc_ops ?_
  refine wj_q _ (q_mv rfl) ?_
  refine wj_nil ?_
  revert h
  refine jn_i fun k107 qk107 => ?_
  intro h
  refine wc_mono2 (G := fun t m => ∃ (a106 : List Int), k107 a106 = some r ∧ Fit [(2, .pointer (some ⟨b3, 0, none⟩)), (3, .pointer (some ⟨b7, 0, none⟩))] (ck b7 26 [.ints .u8 32 (a106)] :: (ck b3 26 [.ints .u8 32 ((List.replicate 32 0))] :: (ck b2 58 [.ints .u64 5 (y5)] :: []))) t m) ?_ ?_
  · refine wc_block ?_
    refine wc_loopJ (fun n164 t m => ∃ (i161 : Int) (a162 : List Int), field_Bytes_l1 y5 k107 n164 i161 a162 = some r ∧ Fit [(1, .pointer (some ⟨b2, 0, none⟩)), (2, .pointer (some ⟨b3, 0, none⟩)), (3, .pointer (some ⟨b7, 0, none⟩)), (10, .int .i64 (i161))] (ck b7 26 [.ints .u8 32 (a162)] :: (ck b3 26 [.ints .u8 32 ((List.replicate 32 0))] :: (ck b2 58 [.ints .u64 5 (y5)] :: []))) t m) big ?_ ?_
    · exact ⟨0, (List.replicate 32 0), h, ⟨⟨rfl, rfl, rfl, rfl, trivial⟩, (.one .here (.one .here (.one .here .nil)))⟩⟩
    · rintro n164 t m ⟨i161, a162, h, hF⟩
      refine wc_fit hF ?_
      clear hF
      rcases n164 with _ | n164
      · exact none_i h
      have h : field_Bytes_b1 y5 k107 (field_Bytes_l1 y5 k107 n164) i161 a162 = some r := h
      unfold field_Bytes_b1 at h
      obtain ⟨k163, qk163⟩ : ∃ k, k = field_Bytes_l1 y5 k107 n164 := ⟨_, rfl⟩
      try rw [← qk163] at h
      refine wc_seq ?_
      refine wc_ops ?_
      refine wj_q _ (q_bin rfl rfl rfl) ?_
      refine wj_nil ?_
      refine wc_seq ?_
      refine wc_if (c := (decide (i161 < 32))) rfl (fun d166 => ?_) (fun d166 => ?_)
      · have h := br_t h d166
        refine wc_skip ?_
        refine wc_seq ?_
        refine wc_block ?_
        refine wc_seq ?_
        refine wc_ops ?_
        refine wj_q _ (q_mv rfl) ?_
        refine wj_q _ (q_mv rfl) ?_
        refine wj_nil ?_
        refine wc_seq ?_
        revert h
        refine bnd_i fun z169 ez169 => ?_
        refine bnd_i fun z170 ez170 => ?_
        refine bnd_i fun z171 ez171 => ?_
        refine bnd_i fun z172 ez172 => ?_
        intro h
        refine wc_ops ?_
        refine wj_q _ (q_mv rfl) ?_
        refine wj_q _ (iz ez169 (q_bin rfl rfl rfl)) ?_
        refine wj_q _ (iz ez170 (q_quo rfl rfl (by decide))) ?_
        refine wj_q _ (q_mv rfl) ?_
        refine wj_q _ (iz ez171 (q_bin rfl rfl rfl)) ?_
        refine wj_q _ (iz ez172 (q_rem rfl rfl (by decide))) ?_
        refine wj_q _ (q_mv rfl) ?_
        refine wj_q _ (q_mv rfl) ?_
        refine wj_nil ?_
        refine wc_seq ?_
        revert h
        refine chk_i fun c174 => ?_
        refine bnd_i fun z175 ez175 => ?_
        refine chk_i fun c176 => ?_
        refine bnd_i fun z177 ez177 => ?_
        intro h
        refine wc_ops ?_
        refine wj_q _ (q_mv rfl) ?_
        refine wj_q _ (q_ia rfl rfl (inB_z c174)) ?_
        refine wj_q _ (iz ez175 (q_ldi (base := 0) rfl (.there (.there .here)) rfl (inB_n c174))) ?_
        refine wj_q _ (q_mv rfl) ?_
        refine wj_q _ (iz ez177 (q_shr rfl rfl (of_decide_eq_true c176))) ?_
        refine wj_q _ (q_mv rfl) ?_
        refine wj_nil ?_
        refine wc_seq ?_
        refine wc_seq ?_
        refine wc_ops ?_
        refine wj_q _ (q_mv rfl) ?_
        refine wj_q _ (q_bin rfl rfl rfl) ?_
        refine wj_q _ (q_mv rfl) ?_
        refine wj_and rfl rfl rfl (fun hg1 => qj_g rfl _ (q_mv rfl) (qj_g rfl _ (q_bin rfl rfl rfl) (qj_nil))) (fun hg1 => rfl) rfl ?_
        refine wj_nil ?_
        revert h
        refine jn_i fun k189 qk189 => ?_
        intro h
        refine wc_mono2 (G := fun t m => ∃ (i188 : Int), k189 i188 = some r ∧ Fit [(1, .pointer (some ⟨b2, 0, none⟩)), (2, .pointer (some ⟨b3, 0, none⟩)), (3, .pointer (some ⟨b7, 0, none⟩)), (4, .int .i64 (i161)), (7, .int .u64 (i188)), (10, .int .i64 (i161))] (ck b7 26 [.ints .u8 32 (a162)] :: (ck b3 26 [.ints .u8 32 ((List.replicate 32 0))] :: (ck b2 58 [.ints .u64 5 (y5)] :: []))) t m) ?_ ?_
        · refine wc_if (c := ((decide (z172 > 43)) && (decide (z170 < 4)))) rfl (fun d190 => ?_) (fun d190 => ?_)
          · have h := br_t h d190
            revert h
            refine bnd_i fun z192 ez192 => ?_
            refine chk_i fun c193 => ?_
            refine bnd_i fun z194 ez194 => ?_
            refine bnd_i fun z195 ez195 => ?_
            refine chk_i fun c196 => ?_
            refine bnd_i fun z197 ez197 => ?_
            refine bnd_i fun z198 ez198 => ?_
            intro h
            refine wc_ops ?_
            refine wj_q _ (q_mv rfl) ?_
            refine wj_q _ (q_mv rfl) ?_
            refine wj_q _ (iz ez192 (q_bin rfl rfl rfl)) ?_
            refine wj_q _ (q_ia rfl rfl (inB_z c193)) ?_
            refine wj_q _ (iz ez194 (q_ldi (base := 0) rfl (.there (.there .here)) rfl (inB_n c193))) ?_
            refine wj_q _ (q_mv rfl) ?_
            refine wj_q _ (iz ez195 (q_bin rfl rfl rfl)) ?_
            refine wj_q _ (iz ez197 (q_shl rfl rfl (of_decide_eq_true c196))) ?_
            refine wj_q _ (iz ez198 (q_bin rfl rfl rfl)) ?_
            refine wj_q _ (q_mv rfl) ?_
            refine wj_nil ?_
            exact ⟨z198, h, ⟨⟨rfl, rfl, rfl, rfl, rfl, rfl, trivial⟩, (.one .here (.one .here (.one .here .nil)))⟩⟩
          · have h := br_f h d190
            refine wc_skip ?_
            exact ⟨z177, h, ⟨⟨rfl, rfl, rfl, rfl, rfl, rfl, trivial⟩, (.one .here (.one .here (.one .here .nil)))⟩⟩
        · rintro t m ⟨i188, h, hF⟩
          refine wc_fit hF ?_
          clear hF
          subst qk189
          revert h
          refine bnd_i fun z200 ez200 => ?_
          refine chk_i fun c201 => ?_
          refine bnd_i fun l202 el202 => ?_
          intro h
          refine wc_ops ?_
          refine wj_q _ (q_mv rfl) ?_
          refine wj_q _ (q_mv rfl) ?_
          refine wj_q _ (iz ez200 (q_conv rfl)) ?_
          refine wj_q _ (q_ia rfl rfl (inB_z c201)) ?_
          refine wj_e (ef_stiz (q := [.ints .u8 32 (l202)]) (base := 0) el202 rfl rfl rfl (inB_n c201) rfl .here ?_)
          refine wj_nil ?_
          revert h
          refine bnd_i fun z204 ez204 => ?_
          intro h
          refine wc_ops ?_
          refine wj_q _ (iz ez204 (q_bin rfl rfl rfl)) ?_
          refine wj_q _ (q_mv rfl) ?_
          refine wj_nil ?_
          rw [qk163] at h
          exact ⟨n164, Nat.lt_succ_self _, z204, l202, h, ⟨⟨rfl, rfl, rfl, rfl, trivial⟩, (.one .here (.one .here (.one .here .nil)))⟩⟩
      · have h := br_f h d166
        refine wc_exit _ rfl ?_
        exact ⟨a162, h, ⟨⟨rfl, rfl, trivial⟩, (.one .here (.one .here (.one .here .nil)))⟩⟩
  · rintro t m ⟨a106, h, hF⟩
    refine wc_fit hF ?_
    clear hF
    subst qk107
    refine wc_seq ?_
    refine wc_ops ?_
    refine wj_q _ (q_ld (p := [.ints .u8 32 (a106)]) rfl .here rfl) ?_
    refine wj_e (ef_st (q := [.ints .u8 32 (a106)]) rfl rfl rfl rfl rfl (.there .here) ?_)
    refine wj_nil ?_
    refine wc_ret ?_
    revert h; refine ret_i fun h => ?_
    subst h
    exact ⟨_, (.cons (.agg rfl (.there .here) rfl) .nil), rfl⟩
/- farebox/field.Canonical -/
def field_Canonical (p0 : List Int) : Option (Bool) :=
 opt (field_FromBytes p0) fun y4 =>
 opt (field_Bytes y4) fun y5 =>
 some (ieq 32 y5 p0)
theorem field_Canonical_spec {W : World} {r : Bool} {p0 : List Int} (h : field_Canonical p0 = some r)  :
    Calls Tryd.prog 32 [agg [.ints .u8 32 (p0)]].toArray W (ret1 W (.bool (r))) := by
  unfold field_Canonical at h
  refine calls_val mo ok32 rfl ?_
  refine wc_seq ?_
  refine wc_ops ?_
  refine wj_e (ef_bx (s := [.ints .u8 32 (p0)]) rfl fun b2 hb2 => ?_)
  refine wj_q _ (q_mv rfl) ?_
  refine wj_nil ?_
  refine wc_seq ?_
  revert h
  refine opt_i fun y4 ey4 => ?_
  refine opt_i fun y5 ey5 => ?_
  intro h
  refine wc_draw ?_
  refine ws_q1 _ (q_ld (p := [.ints .u8 32 (p0)]) rfl .here rfl) ?_
  refine ws_p1 _ (q_call (vs := [agg [.ints .u8 32 (p0)]]) (v := agg [.ints .u64 5 (y4)]) rfl (fun w hw => field_FromBytes_spec (r := y4) (p0 := p0) ey4 )) ?_
  refine ws_p1 _ (q_call (vs := [agg [.ints .u64 5 (y4)]]) (v := agg [.ints .u8 32 (y5)]) rfl (fun w hw => field_Bytes_spec (r := y5) (p0 := y4) ey5 )) ?_
  refine ws_q1 _ (q_ld (p := [.ints .u8 32 (p0)]) rfl .here rfl) ?_
  refine ws_p1 _ (q_eqa rfl rfl rfl rfl _ (eqc_last eqc_ints)) ?_
  refine ws_p1 _ (q_mv rfl) ?_
  refine ws_nil ?_
  refine wc_ret ?_
  revert h; refine ret_i fun h => ?_
  subst h
  exact ⟨_, (.cons (.tmp rfl) .nil), rfl⟩
end Go.Proofs.YtiflckckekjbnaaDoor
