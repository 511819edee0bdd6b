/- Short forms of the statements. -/
import Derived.Test.YtiflckckekjbnaaDoorC2
namespace Go.Proofs.YtiflckckekjbnaaDoor
open Go Go.Sx Go.RowKit
set_option linter.all false
set_option maxHeartbeats 400000
set_option maxRecDepth 100000
/- farebox/fareboxlaw08.printed -/
def r9_0 : List J := [
  .op ⟨some 0, none, .mv (.const (.bool false))⟩]
def r9_1 : List J := [
  .op ⟨some 2, none, .bd [.ints .u8 32 (List.replicate 32 0)] [(0, 1, (.const (.int .u8 157))), (1, 1, (.const (.int .u8 97))), (2, 1, (.const (.int .u8 177))), (3, 1, (.const (.int .u8 157))), (4, 1, (.const (.int .u8 239))), (5, 1, (.const (.int .u8 253))), (6, 1, (.const (.int .u8 90))), (7, 1, (.const (.int .u8 96))), (8, 1, (.const (.int .u8 186))), (9, 1, (.const (.int .u8 132))), (10, 1, (.const (.int .u8 74))), (11, 1, (.const (.int .u8 244))), (12, 1, (.const (.int .u8 146))), (13, 1, (.const (.int .u8 236))), (14, 1, (.const (.int .u8 44))), (15, 1, (.const (.int .u8 196))), (16, 1, (.const (.int .u8 68))), (17, 1, (.const (.int .u8 73))), (18, 1, (.const (.int .u8 197))), (19, 1, (.const (.int .u8 105))), (20, 1, (.const (.int .u8 123))), (21, 1, (.const (.int .u8 50))), (22, 1, (.const (.int .u8 105))), (23, 1, (.const (.int .u8 25))), (24, 1, (.const (.int .u8 112))), (25, 1, (.const (.int .u8 59))), (26, 1, (.const (.int .u8 172))), (27, 1, (.const (.int .u8 3))), (28, 1, (.const (.int .u8 28))), (29, 1, (.const (.int .u8 174))), (30, 1, (.const (.int .u8 127))), (31, 1, (.const (.int .u8 96)))]⟩,
  .op ⟨some 1, none, .al 38 [.ints .u8 32 (List.replicate 32 0)]⟩,
  .op ⟨none, none, .st 32 (.tmp 1) (.tmp 2)⟩]
def r9_2 : List J := [
  .op ⟨some 3, none, .ld 32 true (.tmp 1)⟩,
  .op ⟨some 4, none, .call 10 [(.tmp 3)]⟩,
  .op ⟨some 5, none, .bd [.ints .u8 32 (List.replicate 32 0)] [(0, 1, (.const (.int .u8 215))), (1, 1, (.const (.int .u8 90))), (2, 1, (.const (.int .u8 152))), (3, 1, (.const (.int .u8 1))), (4, 1, (.const (.int .u8 130))), (5, 1, (.const (.int .u8 177))), (6, 1, (.const (.int .u8 10))), (7, 1, (.const (.int .u8 183))), (8, 1, (.const (.int .u8 213))), (9, 1, (.const (.int .u8 75))), (10, 1, (.const (.int .u8 254))), (11, 1, (.const (.int .u8 211))), (12, 1, (.const (.int .u8 201))), (13, 1, (.const (.int .u8 100))), (14, 1, (.const (.int .u8 7))), (15, 1, (.const (.int .u8 58))), (16, 1, (.const (.int .u8 14))), (17, 1, (.const (.int .u8 225))), (18, 1, (.const (.int .u8 114))), (19, 1, (.const (.int .u8 243))), (20, 1, (.const (.int .u8 218))), (21, 1, (.const (.int .u8 166))), (22, 1, (.const (.int .u8 35))), (23, 1, (.const (.int .u8 37))), (24, 1, (.const (.int .u8 175))), (25, 1, (.const (.int .u8 2))), (26, 1, (.const (.int .u8 26))), (27, 1, (.const (.int .u8 104))), (28, 1, (.const (.int .u8 247))), (29, 1, (.const (.int .u8 7))), (30, 1, (.const (.int .u8 81))), (31, 1, (.const (.int .u8 26)))]⟩,
  .op ⟨some 6, none, .eqa false [(.i .u8, 32)] (.tmp 4) (.tmp 5)⟩,
  .op ⟨some 0, none, .mv (.tmp 6)⟩]
def d9 : FnD := ⟨7, [.tmp 0], (.seq (.ops r9_0) (.seq (.ops r9_1) (.seq (.ops r9_2) .ret)))⟩
theorem ok9 : okF Tryd.prog 9 d9 = true := by kernel_rfl
/- farebox/fareboxlaw08.SignEach -/
def r3_0 : List J := [
  .op ⟨some 2, none, .mv (.const (.bool false))⟩]
def r3_1 : List J := [
  .op ⟨some 3, none, .mv (.const (.slice none 0 0))⟩]
def r3_2 : List J := [
  .op ⟨some 4, none, .mv (.const (.slice none 0 0))⟩]
def r3_3 : List J := [
  .op ⟨some 5, none, .mv (.const (.slice none 0 0))⟩]
def r3_4 : List J := [
  .op ⟨some 10, none, .mv (.tmp 0)⟩,
  .op ⟨some 11, none, .len (.tmp 10)⟩,
  .op ⟨some 6, none, .mv (.tmp 11)⟩]
def r3_5 : List J := [
  .op ⟨some 7, none, .mv (.const (.int .i64 0))⟩]
def r3_6 : List J := [
  .op ⟨some 12, none, .mv (.tmp 7)⟩,
  .op ⟨some 13, none, .mv (.tmp 0)⟩,
  .op ⟨some 14, none, .len (.tmp 13)⟩,
  .op ⟨some 15, none, .bin .lss (.tmp 12) (.tmp 14)⟩]
def r3_8 : List J := [
  .op ⟨some 18, none, .mv (.tmp 3)⟩,
  .op ⟨some 19, none, .mv (.tmp 0)⟩,
  .op ⟨some 20, none, .mv (.tmp 7)⟩,
  .op ⟨some 21, none, .ias 97 (.tmp 19) (.tmp 20)⟩,
  .op ⟨some 22, none, .fa 0 (.tmp 21)⟩,
  .op ⟨some 23, none, .ld 32 true (.tmp 22)⟩,
  .op ⟨some 24, none, .bs 27 1 32 [.ints .u8 32 (List.replicate 32 0)] [(0, 32, (.tmp 23))]⟩,
  .op ⟨some 25, none, .app 27 32 32 [.ints .u8 32 (List.replicate 32 0)] (.tmp 18) (.tmp 24)⟩,
  .op ⟨some 3, none, .mv (.tmp 25)⟩]
def r3_9 : List J := [
  .op ⟨some 26, none, .mv (.tmp 4)⟩,
  .op ⟨some 27, none, .mv (.tmp 0)⟩,
  .op ⟨some 28, none, .mv (.tmp 7)⟩,
  .op ⟨some 29, none, .ias 97 (.tmp 27) (.tmp 28)⟩,
  .op ⟨some 30, none, .fa 32 (.tmp 29)⟩,
  .op ⟨some 31, none, .ld 1 false (.tmp 30)⟩,
  .op ⟨some 32, none, .bs 28 1 1 [.one (.slice none 0 0)] [(0, 1, (.tmp 31))]⟩,
  .op ⟨some 33, none, .app 28 1 24 [.one (.slice none 0 0)] (.tmp 26) (.tmp 32)⟩,
  .op ⟨some 4, none, .mv (.tmp 33)⟩]
def r3_10 : List J := [
  .op ⟨some 34, none, .mv (.tmp 5)⟩,
  .op ⟨some 35, none, .mv (.tmp 0)⟩,
  .op ⟨some 36, none, .mv (.tmp 7)⟩,
  .op ⟨some 37, none, .ias 97 (.tmp 35) (.tmp 36)⟩,
  .op ⟨some 38, none, .fa 33 (.tmp 37)⟩,
  .op ⟨some 39, none, .ld 64 true (.tmp 38)⟩,
  .op ⟨some 40, none, .bs 30 1 64 [.ints .u8 64 (List.replicate 64 0)] [(0, 64, (.tmp 39))]⟩,
  .op ⟨some 41, none, .app 30 64 64 [.ints .u8 64 (List.replicate 64 0)] (.tmp 34) (.tmp 40)⟩,
  .op ⟨some 5, none, .mv (.tmp 41)⟩]
def r3_11 : Sch :=
  (.p [0] (.op ⟨some 42, none, .mv (.tmp 6)⟩)
  (.p [1] (.op ⟨some 43, none, .mv (.tmp 0)⟩)
  (.p [2] (.op ⟨some 44, none, .len (.tmp 43)⟩)
  (.p [3] (.op ⟨some 45, none, .bin .eql (.tmp 42) (.tmp 44)⟩)
  (.p [4] (.op ⟨some 46, none, .mv (.tmp 45)⟩)
  (.q [5, 6, 7, 8, 9, 10, 11, 12, 13, 14, 15, 16, 17, 18, 19, 20, 21, 22] (.lg false 46 64 none [.op ⟨some 47, (some (46, true)), .mv (.tmp 0)⟩, .op ⟨some 48, (some (46, true)), .mv (.tmp 7)⟩, .op ⟨some 49, (some (46, true)), .ias 97 (.tmp 47) (.tmp 48)⟩, .op ⟨some 50, (some (46, true)), .fa 0 (.tmp 49)⟩, .op ⟨some 51, (some (46, true)), .ld 32 true (.tmp 50)⟩, .op ⟨some 52, (some (46, true)), .mv (.tmp 0)⟩, .op ⟨some 53, (some (46, true)), .mv (.tmp 7)⟩, .op ⟨some 54, (some (46, true)), .ias 97 (.tmp 52) (.tmp 53)⟩, .op ⟨some 55, (some (46, true)), .fa 32 (.tmp 54)⟩, .op ⟨some 56, (some (46, true)), .ld 1 false (.tmp 55)⟩, .op ⟨some 57, (some (46, true)), .mv (.tmp 0)⟩, .op ⟨some 58, (some (46, true)), .mv (.tmp 7)⟩, .op ⟨some 59, (some (46, true)), .ias 97 (.tmp 57) (.tmp 58)⟩, .op ⟨some 60, (some (46, true)), .fa 33 (.tmp 59)⟩, .op ⟨some 61, (some (46, true)), .ld 64 true (.tmp 60)⟩, .op ⟨some 62, (some (46, true)), .call 7 [(.tmp 51), (.tmp 56), (.tmp 61)]⟩, .op ⟨some 63, (some (46, true)), .un .not (.tmp 62)⟩] (.tmp 63))
  .nil))))))
def r3_12 : List J := [
  .op ⟨some 65, none, .mv (.tmp 7)⟩,
  .op ⟨some 6, none, .mv (.tmp 65)⟩]
def k3_1 : IC := (.seq (.ops r3_8) (.seq (.ops r3_9) (.seq (.ops r3_10) (.seq (.draw r3_11 []) (.cond (.tmp 64) (.ops r3_12) .skip)))))
def r3_7 : List J := [
  .op ⟨some 16, none, .mv (.tmp 7)⟩,
  .op ⟨some 17, none, .bin .add (.tmp 16) (.const (.int .i64 1))⟩,
  .op ⟨some 7, none, .mv (.tmp 17)⟩]
def l3_1 : IC := (.seq (.seq (.ops r3_6) (.cond (.tmp 15) .skip (.exit 0))) (.seq (.block 1 k3_1) (.ops r3_7)))
def k3_0 : IC := (.loop l3_1)
def r3_13 : List J := [
  .op ⟨some 67, none, .mv (.tmp 3)⟩,
  .op ⟨some 68, none, .mv (.tmp 4)⟩,
  .op ⟨some 69, none, .mv (.tmp 5)⟩,
  .op ⟨some 70, none, .call 8 [(.tmp 67), (.tmp 68), (.tmp 69)]⟩,
  .op ⟨some 66, none, .mv (.tmp 70)⟩,
  .op ⟨some 71, none, .ext (.tmp 66) 0⟩,
  .op ⟨some 72, none, .ext (.tmp 66) 1⟩,
  .op ⟨some 8, none, .mv (.tmp 71)⟩,
  .op ⟨some 9, none, .mv (.tmp 72)⟩]
def r3_14 : List J := [
  .op ⟨some 73, none, .mv (.tmp 8)⟩,
  .op ⟨some 74, none, .mv (.tmp 6)⟩,
  .op ⟨some 75, none, .bin .eql (.tmp 73) (.tmp 74)⟩,
  .op ⟨some 76, none, .mv (.tmp 75)⟩,
  .lg false 76 83 none [.op ⟨some 77, (some (76, true)), .mv (.tmp 9)⟩, .op ⟨some 78, (some (76, true)), .mv (.tmp 6)⟩, .op ⟨some 79, (some (76, true)), .mv (.tmp 0)⟩, .op ⟨some 80, (some (76, true)), .len (.tmp 79)⟩, .op ⟨some 81, (some (76, true)), .bin .eql (.tmp 78) (.tmp 80)⟩, .op ⟨some 82, (some (76, true)), .beq false (.tmp 77) (.tmp 81)⟩] (.tmp 82),
  .op ⟨some 84, none, .mv (.tmp 83)⟩,
  .lg false 84 86 none [.op ⟨some 85, (some (84, true)), .call 9 []⟩] (.tmp 85),
  .op ⟨some 2, none, .mv (.tmp 86)⟩]
def d3 : FnD := ⟨87, [.tmp 2], (.seq (.ops r3_0) (.seq (.ops r3_1) (.seq (.ops r3_2) (.seq (.ops r3_3) (.seq (.ops r3_4) (.seq (.seq (.ops r3_5) (.block 0 k3_0)) (.seq (.ops r3_13) (.seq (.ops r3_14) .ret))))))))⟩
theorem ok3 : okF Tryd.prog 3 d3 = true := by kernel_rfl
/- farebox/fareboxlaw08.SignHolds -/
def r4_0 : List J := [
  .op ⟨some 2, none, .bx 38 (.tmp 0)⟩,
  .op ⟨some 4, none, .mv (.const (.bool false))⟩]
def r4_1 : Sch :=
  (.p [2] (.op ⟨some 7, none, .mv (.tmp 1)⟩)
  (.p [4] (.op ⟨some 9, none, .mv (.tmp 1)⟩)
  (.q [0] (.op ⟨some 5, none, .ld 32 true (.tmp 2)⟩)
  (.p [1] (.op ⟨some 6, none, .call 10 [(.tmp 5)]⟩)
  (.q [3] (.op ⟨some 8, none, .ld 32 true (.tmp 2)⟩)
  (.q [5] (.op ⟨some 10, none, .call 11 [(.tmp 8), (.tmp 9)]⟩)
  (.q [6] (.op ⟨some 11, none, .call 7 [(.tmp 6), (.tmp 7), (.tmp 10)]⟩)
  (.p [7] (.op ⟨some 12, none, .mv (.tmp 11)⟩)
  (.p [8, 9] (.lg false 12 14 none [.op ⟨some 13, (some (12, true)), .call 9 []⟩] (.tmp 13))
  (.p [10] (.op ⟨some 4, none, .mv (.tmp 14)⟩)
  .nil))))))))))
def d4 : FnD := ⟨15, [.tmp 4], (.seq (.ops r4_0) (.seq (.draw r4_1 []) .ret))⟩
theorem ok4 : okF Tryd.prog 4 d4 = true := by kernel_rfl
/- farebox/fareboxlaw08.order -/
def r27_0 : List J := [
  .op ⟨some 0, none, .al 26 [.ints .u8 32 (List.replicate 32 0)]⟩]
def r27_1 : List J := [
  .op ⟨some 1, none, .bd [.ints .u8 32 (List.replicate 32 0)] [(0, 1, (.const (.int .u8 237))), (1, 1, (.const (.int .u8 211))), (2, 1, (.const (.int .u8 245))), (3, 1, (.const (.int .u8 92))), (4, 1, (.const (.int .u8 26))), (5, 1, (.const (.int .u8 99))), (6, 1, (.const (.int .u8 18))), (7, 1, (.const (.int .u8 88))), (8, 1, (.const (.int .u8 214))), (9, 1, (.const (.int .u8 156))), (10, 1, (.const (.int .u8 247))), (11, 1, (.const (.int .u8 162))), (12, 1, (.const (.int .u8 222))), (13, 1, (.const (.int .u8 249))), (14, 1, (.const (.int .u8 222))), (15, 1, (.const (.int .u8 20))), (31, 1, (.const (.int .u8 16)))]⟩,
  .op ⟨none, none, .st 32 (.tmp 0) (.tmp 1)⟩]
def d27 : FnD := ⟨2, [.cell 0 32 true], (.seq (.ops r27_0) (.seq (.ops r27_1) .ret))⟩
theorem ok27 : okF Tryd.prog 27 d27 = true := by kernel_rfl
/- farebox/fareboxlaw08.raised -/
def r12_0 : List J := [
  .op ⟨some 1, none, .bx 30 (.tmp 0)⟩,
  .op ⟨some 2, none, .al 30 [.ints .u8 64 (List.replicate 64 0)]⟩,
  .op ⟨some 3, none, .mv (.const (.bool false))⟩]
def r12_1 : List J := [
  .op ⟨some 8, none, .call 27 []⟩,
  .op ⟨some 4, none, .al 26 [.ints .u8 32 (List.replicate 32 0)]⟩,
  .op ⟨none, none, .st 32 (.tmp 4) (.tmp 8)⟩]
def r12_2 : List J := [
  .op ⟨some 5, none, .mv (.const (.int .i64 0))⟩]
def r12_3 : List J := [
  .op ⟨some 6, none, .mv (.const (.int .i64 0))⟩]
def r12_4 : List J := [
  .op ⟨some 9, none, .mv (.tmp 6)⟩,
  .op ⟨some 10, none, .bin .lss (.tmp 9) (.const (.int .i64 32))⟩]
def r12_6 : Sch :=
  (.p [0] (.op ⟨some 13, none, .mv (.tmp 6)⟩)
  (.p [1] (.op ⟨some 14, none, .bin .add (.const (.int .i64 32)) (.tmp 13)⟩)
  (.p [2] (.op ⟨some 15, none, .ia 64 1 (.tmp 1) (.tmp 14)⟩)
  (.p [5] (.op ⟨some 18, none, .mv (.tmp 6)⟩)
  (.p [6] (.op ⟨some 19, none, .ia 32 1 (.tmp 4) (.tmp 18)⟩)
  (.p [10] (.op ⟨some 23, none, .mv (.tmp 5)⟩)
  (.q [3] (.op ⟨some 16, none, .ld 1 false (.tmp 15)⟩)
  (.p [4] (.op ⟨some 17, none, .conv .i64 (.tmp 16)⟩)
  (.q [7] (.op ⟨some 20, none, .ld 1 false (.tmp 19)⟩)
  (.p [8] (.op ⟨some 21, none, .conv .i64 (.tmp 20)⟩)
  (.p [9] (.op ⟨some 22, none, .bin .add (.tmp 17) (.tmp 21)⟩)
  (.p [11] (.op ⟨some 24, none, .bin .add (.tmp 22) (.tmp 23)⟩)
  (.p [12] (.op ⟨some 7, none, .mv (.tmp 24)⟩)
  .nil)))))))))))))
def r12_7 : List J := [
  .op ⟨some 25, none, .mv (.tmp 6)⟩,
  .op ⟨some 26, none, .bin .add (.const (.int .i64 32)) (.tmp 25)⟩,
  .op ⟨some 27, none, .mv (.tmp 7)⟩,
  .op ⟨some 28, none, .bin .rem (.tmp 27) (.const (.int .i64 256))⟩,
  .op ⟨some 29, none, .conv .u8 (.tmp 28)⟩,
  .op ⟨some 30, none, .ia 64 1 (.tmp 1) (.tmp 26)⟩,
  .op ⟨none, none, .st 1 (.tmp 30) (.tmp 29)⟩]
def r12_8 : List J := [
  .op ⟨some 31, none, .mv (.tmp 7)⟩,
  .op ⟨some 32, none, .bin .quo (.tmp 31) (.const (.int .i64 256))⟩,
  .op ⟨some 5, none, .mv (.tmp 32)⟩]
def k12_1 : IC := (.seq (.draw r12_6 []) (.seq (.ops r12_7) (.ops r12_8)))
def r12_5 : List J := [
  .op ⟨some 11, none, .mv (.tmp 6)⟩,
  .op ⟨some 12, none, .bin .add (.tmp 11) (.const (.int .i64 1))⟩,
  .op ⟨some 6, none, .mv (.tmp 12)⟩]
def l12_1 : IC := (.seq (.seq (.ops r12_4) (.cond (.tmp 10) .skip (.exit 0))) (.seq (.block 1 k12_1) (.ops r12_5)))
def k12_0 : IC := (.loop l12_1)
def r12_9 : List J := [
  .op ⟨some 33, none, .ld 64 true (.tmp 1)⟩,
  .op ⟨some 34, none, .mv (.tmp 5)⟩,
  .op ⟨some 35, none, .bin .eql (.tmp 34) (.const (.int .i64 0))⟩,
  .op ⟨none, none, .st 64 (.tmp 2) (.tmp 33)⟩,
  .op ⟨some 3, none, .mv (.tmp 35)⟩]
def d12 : FnD := ⟨36, [.cell 2 64 true, .tmp 3], (.seq (.ops r12_0) (.seq (.ops r12_1) (.seq (.ops r12_2) (.seq (.seq (.ops r12_3) (.block 0 k12_0)) (.seq (.ops r12_9) .ret)))))⟩
theorem ok12 : okF Tryd.prog 12 d12 = true := by kernel_rfl
/- farebox/fareboxlaw08.SignOnce -/
def r5_0 : List J := [
  .op ⟨some 5, none, .bx 38 (.tmp 0)⟩,
  .op ⟨some 7, none, .bx 27 (.tmp 2)⟩,
  .op ⟨some 8, none, .bx 30 (.tmp 3)⟩,
  .op ⟨some 9, none, .bx 26 (.tmp 4)⟩,
  .op ⟨some 10, none, .mv (.const (.bool false))⟩]
def r5_1 : List J := [
  .op ⟨some 18, none, .ld 32 true (.tmp 5)⟩,
  .op ⟨some 19, none, .mv (.tmp 1)⟩,
  .op ⟨some 20, none, .call 11 [(.tmp 18), (.tmp 19)]⟩,
  .op ⟨some 11, none, .al 30 [.ints .u8 64 (List.replicate 64 0)]⟩,
  .op ⟨none, none, .st 64 (.tmp 11) (.tmp 20)⟩]
def r5_2 : List J := [
  .op ⟨some 21, none, .ld 32 true (.tmp 5)⟩,
  .op ⟨some 22, none, .call 10 [(.tmp 21)]⟩,
  .op ⟨some 12, none, .al 27 [.ints .u8 32 (List.replicate 32 0)]⟩,
  .op ⟨none, none, .st 32 (.tmp 12) (.tmp 22)⟩]
def r5_3 : List J := [
  .op ⟨some 23, none, .ld 32 true (.tmp 12)⟩,
  .op ⟨some 24, none, .mv (.tmp 1)⟩,
  .op ⟨some 25, none, .ld 64 true (.tmp 11)⟩,
  .op ⟨some 26, none, .call 7 [(.tmp 23), (.tmp 24), (.tmp 25)]⟩,
  .op ⟨some 27, none, .un .not (.tmp 26)⟩]
def r5_4 : List J := [
  .op ⟨some 10, none, .mv (.const (.bool false))⟩]
def r5_5 : List J := [
  .op ⟨some 28, none, .ld 64 true (.tmp 11)⟩,
  .op ⟨some 13, none, .al 30 [.ints .u8 64 (List.replicate 64 0)]⟩,
  .op ⟨none, none, .st 64 (.tmp 13) (.tmp 28)⟩]
def r5_6 : List J := [
  .op ⟨some 29, none, .ld 64 true (.tmp 8)⟩,
  .op ⟨some 14, none, .al 30 [.ints .u8 64 (List.replicate 64 0)]⟩,
  .op ⟨none, none, .st 64 (.tmp 14) (.tmp 29)⟩]
def r5_7 : List J := [
  .op ⟨some 15, none, .mv (.const (.int .i64 0))⟩]
def r5_8 : List J := [
  .op ⟨some 30, none, .mv (.tmp 15)⟩,
  .op ⟨some 31, none, .bin .lss (.tmp 30) (.const (.int .i64 32))⟩]
def r5_10 : List J := [
  .op ⟨some 34, none, .mv (.tmp 15)⟩,
  .op ⟨some 35, none, .bin .add (.const (.int .i64 32)) (.tmp 34)⟩,
  .op ⟨some 36, none, .mv (.tmp 15)⟩,
  .op ⟨some 37, none, .ia 32 1 (.tmp 9) (.tmp 36)⟩,
  .op ⟨some 38, none, .ld 1 false (.tmp 37)⟩,
  .op ⟨some 39, none, .ia 64 1 (.tmp 13) (.tmp 35)⟩,
  .op ⟨none, none, .st 1 (.tmp 39) (.tmp 38)⟩]
def r5_11 : List J := [
  .op ⟨some 40, none, .mv (.tmp 15)⟩,
  .op ⟨some 41, none, .bin .add (.const (.int .i64 32)) (.tmp 40)⟩,
  .op ⟨some 42, none, .mv (.tmp 15)⟩,
  .op ⟨some 43, none, .ia 32 1 (.tmp 9) (.tmp 42)⟩,
  .op ⟨some 44, none, .ld 1 false (.tmp 43)⟩,
  .op ⟨some 45, none, .ia 64 1 (.tmp 14) (.tmp 41)⟩,
  .op ⟨none, none, .st 1 (.tmp 45) (.tmp 44)⟩]
def k5_1 : IC := (.seq (.ops r5_10) (.ops r5_11))
def r5_9 : List J := [
  .op ⟨some 32, none, .mv (.tmp 15)⟩,
  .op ⟨some 33, none, .bin .add (.tmp 32) (.const (.int .i64 1))⟩,
  .op ⟨some 15, none, .mv (.tmp 33)⟩]
def l5_1 : IC := (.seq (.seq (.ops r5_8) (.cond (.tmp 31) .skip (.exit 0))) (.seq (.block 1 k5_1) (.ops r5_9)))
def k5_0 : IC := (.loop l5_1)
def r5_12 : List J := [
  .op ⟨some 46, none, .ld 64 true (.tmp 13)⟩,
  .op ⟨some 47, none, .ld 64 true (.tmp 11)⟩,
  .op ⟨some 48, none, .eqa true [(.i .u8, 64)] (.tmp 46) (.tmp 47)⟩,
  .op ⟨some 49, none, .mv (.tmp 48)⟩,
  .lg false 49 54 none [.op ⟨some 50, (some (49, true)), .ld 32 true (.tmp 12)⟩, .op ⟨some 51, (some (49, true)), .mv (.tmp 1)⟩, .op ⟨some 52, (some (49, true)), .ld 64 true (.tmp 13)⟩, .op ⟨some 53, (some (49, true)), .call 7 [(.tmp 50), (.tmp 51), (.tmp 52)]⟩] (.tmp 53)]
def r5_13 : List J := [
  .op ⟨some 10, none, .mv (.const (.bool false))⟩]
def r5_14 : List J := [
  .op ⟨some 55, none, .ld 64 true (.tmp 14)⟩,
  .op ⟨some 56, none, .ld 64 true (.tmp 8)⟩,
  .op ⟨some 57, none, .eqa true [(.i .u8, 64)] (.tmp 55) (.tmp 56)⟩,
  .op ⟨some 58, none, .mv (.tmp 57)⟩,
  .lg false 58 63 none [.op ⟨some 59, (some (58, true)), .ld 32 true (.tmp 7)⟩, .op ⟨some 60, (some (58, true)), .mv (.tmp 1)⟩, .op ⟨some 61, (some (58, true)), .ld 64 true (.tmp 8)⟩, .op ⟨some 62, (some (58, true)), .call 7 [(.tmp 59), (.tmp 60), (.tmp 61)]⟩] (.tmp 62),
  .op ⟨some 64, none, .mv (.tmp 63)⟩,
  .lg false 64 69 none [.op ⟨some 65, (some (64, true)), .ld 32 true (.tmp 7)⟩, .op ⟨some 66, (some (64, true)), .mv (.tmp 1)⟩, .op ⟨some 67, (some (64, true)), .ld 64 true (.tmp 14)⟩, .op ⟨some 68, (some (64, true)), .call 7 [(.tmp 65), (.tmp 66), (.tmp 67)]⟩] (.tmp 68)]
def r5_15 : List J := [
  .op ⟨some 10, none, .mv (.const (.bool false))⟩]
def r5_16 : List J := [
  .op ⟨some 71, none, .ld 64 true (.tmp 11)⟩,
  .op ⟨some 72, none, .call 12 [(.tmp 71)]⟩,
  .op ⟨some 70, none, .mv (.tmp 72)⟩,
  .op ⟨some 73, none, .ext (.tmp 70) 0⟩,
  .op ⟨some 74, none, .ext (.tmp 70) 1⟩,
  .op ⟨some 16, none, .al 30 [.ints .u8 64 (List.replicate 64 0)]⟩,
  .op ⟨none, none, .st 64 (.tmp 16) (.tmp 73)⟩,
  .op ⟨some 17, none, .mv (.tmp 74)⟩]
def r5_17 : List J := [
  .op ⟨some 75, none, .mv (.tmp 17)⟩,
  .op ⟨some 76, none, .mv (.tmp 75)⟩,
  .lg false 76 82 none [.op ⟨some 77, (some (76, true)), .ld 32 true (.tmp 12)⟩, .op ⟨some 78, (some (76, true)), .mv (.tmp 1)⟩, .op ⟨some 79, (some (76, true)), .ld 64 true (.tmp 16)⟩, .op ⟨some 80, (some (76, true)), .call 7 [(.tmp 77), (.tmp 78), (.tmp 79)]⟩, .op ⟨some 81, (some (76, true)), .un .not (.tmp 80)⟩] (.tmp 81),
  .op ⟨some 83, none, .mv (.tmp 82)⟩,
  .lg false 83 85 none [.op ⟨some 84, (some (83, true)), .call 9 []⟩] (.tmp 84),
  .op ⟨some 10, none, .mv (.tmp 85)⟩]
def d5 : FnD := ⟨86, [.tmp 10], (.seq (.ops r5_0) (.seq (.ops r5_1) (.seq (.ops r5_2) (.seq (.seq (.ops r5_3) (.cond (.tmp 27) (.seq (.ops r5_4) .ret) .skip)) (.seq (.ops r5_5) (.seq (.ops r5_6) (.seq (.seq (.ops r5_7) (.block 0 k5_0)) (.seq (.seq (.ops r5_12) (.cond (.tmp 54) (.seq (.ops r5_13) .ret) .skip)) (.seq (.seq (.ops r5_14) (.cond (.tmp 69) (.seq (.ops r5_15) .ret) .skip)) (.seq (.ops r5_16) (.seq (.ops r5_17) .ret)))))))))))⟩
theorem ok5 : okF Tryd.prog 5 d5 = true := by kernel_rfl
end Go.Proofs.YtiflckckekjbnaaDoor
