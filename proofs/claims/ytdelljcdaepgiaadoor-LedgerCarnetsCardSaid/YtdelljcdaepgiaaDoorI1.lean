/- The short forms of the functions, tested against the translation. -/
import Derived.Test.YtdelljcdaepgiaaDoorProg
import Derived.Test.YtdelljcdaepgiaaDoorE8
namespace Go.Proofs.YtdelljcdaepgiaaDoor
open Go Go.Sx
/- farebox/ledger.is -/
def r19_0 : List J := [
  .op ⟨some 2, none, .mv (.const (.bool false))⟩]
def r19_1 : List J := [
  .op ⟨some 3, none, .mv (.tmp 0)⟩,
  .op ⟨some 4, none, .bin .geq (.tmp 3) (.const (.int .i64 0))⟩,
  .op ⟨some 5, none, .mv (.tmp 4)⟩,
  .lg false 5 8 none [.op ⟨some 6, (some (5, true)), .mv (.tmp 0)⟩, .op ⟨some 7, (some (5, true)), .bin .lss (.tmp 6) (.const (.int .i64 3))⟩] (.tmp 7),
  .op ⟨some 2, none, .mv (.tmp 8)⟩]
def d19 : FnD := ⟨9, [.tmp 2], (.seq (.ops r19_0) (.seq (.ops r19_1) .ret))⟩
theorem ok19 : okF Tryd.prog 19 d19 = true := by kernel_rfl
/- farebox/ledger.sum -/
def r26_0 : List J := [
  .op ⟨some 4, none, .mv (.const (.int .i64 0))⟩,
  .op ⟨some 5, none, .mv (.const (.bool false))⟩]
def r26_1 : List J := [
  .op ⟨some 7, none, .mv (.tmp 0)⟩,
  .op ⟨some 8, none, .mv (.tmp 1)⟩,
  .op ⟨some 9, none, .bin .add (.tmp 7) (.tmp 8)⟩,
  .op ⟨some 6, none, .mv (.tmp 9)⟩]
def r26_2 : List J := [
  .op ⟨some 10, none, .mv (.tmp 1)⟩,
  .op ⟨some 11, none, .bin .gtr (.tmp 10) (.const (.int .i64 0))⟩,
  .op ⟨some 12, none, .mv (.tmp 11)⟩,
  .lg false 12 16 none [.op ⟨some 13, (some (12, true)), .mv (.tmp 6)⟩, .op ⟨some 14, (some (12, true)), .mv (.tmp 0)⟩, .op ⟨some 15, (some (12, true)), .bin .lss (.tmp 13) (.tmp 14)⟩] (.tmp 15),
  .op ⟨some 17, none, .mv (.tmp 16)⟩,
  .lg true 17 25 none [.op ⟨some 18, (some (17, false)), .mv (.tmp 1)⟩, .op ⟨some 19, (some (17, false)), .bin .lss (.tmp 18) (.const (.int .i64 0))⟩, .op ⟨some 20, (some (17, false)), .mv (.tmp 19)⟩, .lg false 20 24 (some (17, false)) [.op ⟨some 21, (some (20, true)), .mv (.tmp 6)⟩, .op ⟨some 22, (some (20, true)), .mv (.tmp 0)⟩, .op ⟨some 23, (some (20, true)), .bin .gtr (.tmp 21) (.tmp 22)⟩] (.tmp 23)] (.tmp 24),
  .op ⟨some 26, none, .mv (.tmp 25)⟩,
  .lg true 26 29 none [.op ⟨some 27, (some (26, false)), .mv (.tmp 6)⟩, .op ⟨some 28, (some (26, false)), .bin .eql (.tmp 27) (.const (.int .i64 (-9223372036854775808)))⟩] (.tmp 28)]
def r26_3 : List J := [
  .op ⟨some 4, none, .mv (.const (.int .i64 0))⟩,
  .op ⟨some 5, none, .mv (.const (.bool false))⟩]
def r26_4 : List J := [
  .op ⟨some 30, none, .mv (.tmp 6)⟩,
  .op ⟨some 4, none, .mv (.tmp 30)⟩,
  .op ⟨some 5, none, .mv (.const (.bool true))⟩]
def d26 : FnD := ⟨31, [.tmp 4, .tmp 5], (.seq (.ops r26_0) (.seq (.ops r26_1) (.seq (.seq (.ops r26_2) (.cond (.tmp 29) (.seq (.ops r26_3) .ret) .skip)) (.seq (.ops r26_4) .ret))))⟩
theorem ok26 : okF Tryd.prog 26 d26 = true := by kernel_rfl
/- farebox/ledger.carnet -/
def r18_0 : List J := [
  .op ⟨some 4, none, .mv (.const (.int .i64 0))⟩,
  .op ⟨some 5, none, .mv (.const (.bool false))⟩]
def r18_1 : List J := [
  .op ⟨some 6, none, .mv (.tmp 0)⟩,
  .op ⟨some 7, none, .bin .lss (.tmp 6) (.const (.int .i64 1))⟩,
  .op ⟨some 8, none, .mv (.tmp 7)⟩,
  .lg true 8 11 none [.op ⟨some 9, (some (8, false)), .mv (.tmp 0)⟩, .op ⟨some 10, (some (8, false)), .bin .gtr (.tmp 9) (.const (.int .i64 4096))⟩] (.tmp 10),
  .op ⟨some 12, none, .mv (.tmp 11)⟩,
  .lg true 12 15 none [.op ⟨some 13, (some (12, false)), .mv (.tmp 1)⟩, .op ⟨some 14, (some (12, false)), .bin .lss (.tmp 13) (.const (.int .i64 0))⟩] (.tmp 14),
  .op ⟨some 16, none, .mv (.tmp 15)⟩,
  .lg true 16 19 none [.op ⟨some 17, (some (16, false)), .mv (.tmp 1)⟩, .op ⟨some 18, (some (16, false)), .bin .gtr (.tmp 17) (.const (.int .i64 1000000000))⟩] (.tmp 18)]
def r18_2 : List J := [
  .op ⟨some 4, none, .mv (.const (.int .i64 0))⟩,
  .op ⟨some 5, none, .mv (.const (.bool false))⟩]
def r18_3 : List J := [
  .op ⟨some 20, none, .mv (.tmp 0)⟩,
  .op ⟨some 21, none, .mv (.tmp 1)⟩,
  .op ⟨some 22, none, .bin .mul (.tmp 20) (.tmp 21)⟩,
  .op ⟨some 4, none, .mv (.tmp 22)⟩,
  .op ⟨some 5, none, .mv (.const (.bool true))⟩]
def d18 : FnD := ⟨23, [.tmp 4, .tmp 5], (.seq (.ops r18_0) (.seq (.seq (.ops r18_1) (.cond (.tmp 19) (.seq (.ops r18_2) .ret) .skip)) (.seq (.ops r18_3) .ret)))⟩
theorem ok18 : okF Tryd.prog 18 d18 = true := by kernel_rfl
/- farebox/ledger.Post -/
def r16_0 : List J := [
  .op ⟨some 4, none, .bx 27 (.tmp 0)⟩,
  .op ⟨some 8, none, .al 27 [.ints .i64 3 (List.replicate 3 0)]⟩,
  .op ⟨some 9, none, .mv (.const (.int .i64 0))⟩]
def r16_1 : List J := [
  .op ⟨some 13, none, .mv (.tmp 1)⟩,
  .op ⟨some 14, none, .call 19 [(.tmp 13)]⟩,
  .op ⟨some 15, none, .un .not (.tmp 14)⟩,
  .op ⟨some 16, none, .mv (.tmp 15)⟩,
  .lg true 16 20 none [.op ⟨some 17, (some (16, false)), .mv (.tmp 2)⟩, .op ⟨some 18, (some (16, false)), .call 19 [(.tmp 17)]⟩, .op ⟨some 19, (some (16, false)), .un .not (.tmp 18)⟩] (.tmp 19),
  .op ⟨some 21, none, .mv (.tmp 20)⟩,
  .lg true 21 25 none [.op ⟨some 22, (some (21, false)), .mv (.tmp 1)⟩, .op ⟨some 23, (some (21, false)), .mv (.tmp 2)⟩, .op ⟨some 24, (some (21, false)), .bin .eql (.tmp 22) (.tmp 23)⟩] (.tmp 24),
  .op ⟨some 26, none, .mv (.tmp 25)⟩,
  .lg true 26 29 none [.op ⟨some 27, (some (26, false)), .mv (.tmp 3)⟩, .op ⟨some 28, (some (26, false)), .bin .lss (.tmp 27) (.const (.int .i64 0))⟩] (.tmp 28)]
def r16_2 : List J := [
  .op ⟨some 30, none, .ld 3 true (.tmp 4)⟩,
  .op ⟨none, none, .st 3 (.tmp 8) (.tmp 30)⟩,
  .op ⟨some 9, none, .mv (.const (.int .i64 2))⟩]
def r16_3 : List J := [
  .op ⟨some 31, none, .ld 3 true (.tmp 4)⟩,
  .op ⟨some 10, none, .al 27 [.ints .i64 3 (List.replicate 3 0)]⟩,
  .op ⟨none, none, .st 3 (.tmp 10) (.tmp 31)⟩]
def r16_4 : List J := [
  .op ⟨some 11, none, .mv (.const (.bool false))⟩,
  .op ⟨some 12, none, .mv (.const (.bool false))⟩]
def r16_5 : List J := [
  .op ⟨some 33, none, .mv (.tmp 1)⟩,
  .op ⟨some 34, none, .mv (.tmp 1)⟩,
  .op ⟨some 35, none, .fa 0 (.tmp 4)⟩,
  .op ⟨some 36, none, .ia 3 1 (.tmp 35) (.tmp 34)⟩,
  .op ⟨some 37, none, .ld 1 false (.tmp 36)⟩,
  .op ⟨some 38, none, .mv (.tmp 3)⟩,
  .op ⟨some 39, none, .call 26 [(.tmp 37), (.tmp 38)]⟩,
  .op ⟨some 32, none, .mv (.tmp 39)⟩,
  .op ⟨some 40, none, .ext (.tmp 32) 0⟩,
  .op ⟨some 41, none, .ext (.tmp 32) 1⟩,
  .op ⟨some 42, none, .fa 0 (.tmp 10)⟩,
  .op ⟨some 43, none, .ia 3 1 (.tmp 42) (.tmp 33)⟩,
  .op ⟨none, none, .st 1 (.tmp 43) (.tmp 40)⟩,
  .op ⟨some 11, none, .mv (.tmp 41)⟩]
def r16_6 : List J := [
  .op ⟨some 45, none, .mv (.tmp 2)⟩,
  .op ⟨some 46, none, .mv (.tmp 2)⟩,
  .op ⟨some 47, none, .fa 0 (.tmp 4)⟩,
  .op ⟨some 48, none, .ia 3 1 (.tmp 47) (.tmp 46)⟩,
  .op ⟨some 49, none, .ld 1 false (.tmp 48)⟩,
  .op ⟨some 50, none, .mv (.tmp 3)⟩,
  .op ⟨some 51, none, .un .neg (.tmp 50)⟩,
  .op ⟨some 52, none, .call 26 [(.tmp 49), (.tmp 51)]⟩,
  .op ⟨some 44, none, .mv (.tmp 52)⟩,
  .op ⟨some 53, none, .ext (.tmp 44) 0⟩,
  .op ⟨some 54, none, .ext (.tmp 44) 1⟩,
  .op ⟨some 55, none, .fa 0 (.tmp 10)⟩,
  .op ⟨some 56, none, .ia 3 1 (.tmp 55) (.tmp 45)⟩,
  .op ⟨none, none, .st 1 (.tmp 56) (.tmp 53)⟩,
  .op ⟨some 12, none, .mv (.tmp 54)⟩]
def r16_7 : List J := [
  .op ⟨some 57, none, .mv (.tmp 11)⟩,
  .op ⟨some 58, none, .un .not (.tmp 57)⟩,
  .op ⟨some 59, none, .mv (.tmp 58)⟩,
  .lg true 59 62 none [.op ⟨some 60, (some (59, false)), .mv (.tmp 12)⟩, .op ⟨some 61, (some (59, false)), .un .not (.tmp 60)⟩] (.tmp 61)]
def r16_8 : List J := [
  .op ⟨some 63, none, .ld 3 true (.tmp 4)⟩,
  .op ⟨none, none, .st 3 (.tmp 8) (.tmp 63)⟩,
  .op ⟨some 9, none, .mv (.const (.int .i64 3))⟩]
def r16_9 : List SJ := [
  .q [0] (.op ⟨some 64, none, .mv (.tmp 1)⟩),
  .q [1] (.op ⟨some 65, none, .ia 3 1 (.global 0) (.tmp 64)⟩),
  .q [2] (.op ⟨some 66, none, .ld 1 false (.tmp 65)⟩),
  .q [3] (.op ⟨some 67, none, .mv (.tmp 1)⟩),
  .q [4] (.op ⟨some 68, none, .fa 0 (.tmp 10)⟩),
  .q [5] (.op ⟨some 69, none, .ia 3 1 (.tmp 68) (.tmp 67)⟩),
  .q [6] (.op ⟨some 70, none, .ld 1 false (.tmp 69)⟩),
  .q [7] (.op ⟨some 71, none, .bin .mul (.tmp 66) (.tmp 70)⟩),
  .q [8] (.op ⟨some 72, none, .bin .lss (.tmp 71) (.const (.int .i64 0))⟩),
  .q [9] (.op ⟨some 73, none, .mv (.tmp 72)⟩),
  .q [10, 11, 12, 13, 14, 15, 16, 17, 18, 19] (.lg true 73 83 none [.op ⟨some 74, (some (73, false)), .mv (.tmp 2)⟩, .op ⟨some 75, (some (73, false)), .ia 3 1 (.global 0) (.tmp 74)⟩, .op ⟨some 76, (some (73, false)), .ld 1 false (.tmp 75)⟩, .op ⟨some 77, (some (73, false)), .mv (.tmp 2)⟩, .op ⟨some 78, (some (73, false)), .fa 0 (.tmp 10)⟩, .op ⟨some 79, (some (73, false)), .ia 3 1 (.tmp 78) (.tmp 77)⟩, .op ⟨some 80, (some (73, false)), .ld 1 false (.tmp 79)⟩, .op ⟨some 81, (some (73, false)), .bin .mul (.tmp 76) (.tmp 80)⟩, .op ⟨some 82, (some (73, false)), .bin .lss (.tmp 81) (.const (.int .i64 0))⟩] (.tmp 82))]
def r16_10 : List J := [
  .op ⟨some 84, none, .ld 3 true (.tmp 4)⟩,
  .op ⟨none, none, .st 3 (.tmp 8) (.tmp 84)⟩,
  .op ⟨some 9, none, .mv (.const (.int .i64 220))⟩]
def r16_11 : List J := [
  .op ⟨some 85, none, .ld 3 true (.tmp 10)⟩,
  .op ⟨none, none, .st 3 (.tmp 8) (.tmp 85)⟩,
  .op ⟨some 9, none, .mv (.const (.int .i64 0))⟩]
def d16 : FnD := ⟨86, [.cell 8 3 true, .tmp 9], (.seq (.ops r16_0) (.seq (.seq (.ops r16_1) (.cond (.tmp 29) (.seq (.ops r16_2) .ret) .skip)) (.seq (.ops r16_3) (.seq (.ops r16_4) (.seq (.ops r16_5) (.seq (.ops r16_6) (.seq (.seq (.ops r16_7) (.cond (.tmp 62) (.seq (.ops r16_8) .ret) .skip)) (.seq (.seq (.draw r16_9 []) (.cond (.tmp 83) (.seq (.ops r16_10) .ret) .skip)) (.seq (.ops r16_11) .ret)))))))))⟩
theorem ok16 : okF Tryd.prog 16 d16 = true := by kernel_rfl
/- farebox/ledger.Sell -/
def r9_0 : List J := [
  .op ⟨some 3, none, .bx 27 (.tmp 0)⟩,
  .op ⟨some 6, none, .al 27 [.ints .i64 3 (List.replicate 3 0)]⟩,
  .op ⟨some 7, none, .mv (.const (.int .i64 0))⟩]
def r9_1 : List J := [
  .op ⟨some 11, none, .mv (.tmp 1)⟩,
  .op ⟨some 12, none, .mv (.tmp 2)⟩,
  .op ⟨some 13, none, .call 18 [(.tmp 11), (.tmp 12)]⟩,
  .op ⟨some 10, none, .mv (.tmp 13)⟩,
  .op ⟨some 14, none, .ext (.tmp 10) 0⟩,
  .op ⟨some 15, none, .ext (.tmp 10) 1⟩,
  .op ⟨some 8, none, .mv (.tmp 14)⟩,
  .op ⟨some 9, none, .mv (.tmp 15)⟩]
def r9_2 : List J := [
  .op ⟨some 16, none, .mv (.tmp 9)⟩,
  .op ⟨some 17, none, .un .not (.tmp 16)⟩]
def r9_3 : List J := [
  .op ⟨some 18, none, .ld 3 true (.tmp 3)⟩,
  .op ⟨none, none, .st 3 (.tmp 6) (.tmp 18)⟩,
  .op ⟨some 7, none, .mv (.const (.int .i64 2))⟩]
def r9_4 : List J := [
  .op ⟨some 19, none, .ld 3 true (.tmp 3)⟩,
  .op ⟨some 20, none, .mv (.tmp 8)⟩,
  .op ⟨some 21, none, .call 16 [(.tmp 19), (.const (.int .i64 0)), (.const (.int .i64 1)), (.tmp 20)]⟩,
  .op ⟨some 22, none, .ext (.tmp 21) 0⟩,
  .op ⟨some 23, none, .ext (.tmp 21) 1⟩,
  .op ⟨none, none, .st 3 (.tmp 6) (.tmp 22)⟩,
  .op ⟨some 7, none, .mv (.tmp 23)⟩]
def d9 : FnD := ⟨24, [.cell 6 3 true, .tmp 7], (.seq (.ops r9_0) (.seq (.ops r9_1) (.seq (.seq (.ops r9_2) (.cond (.tmp 17) (.seq (.ops r9_3) .ret) .skip)) (.seq (.ops r9_4) .ret))))⟩
theorem ok9 : okF Tryd.prog 9 d9 = true := by kernel_rfl
/- farebox/ledger.Refund -/
def r11_0 : List J := [
  .op ⟨some 4, none, .bx 27 (.tmp 0)⟩,
  .op ⟨some 8, none, .al 27 [.ints .i64 3 (List.replicate 3 0)]⟩,
  .op ⟨some 9, none, .mv (.const (.int .i64 0))⟩]
def r11_1 : List J := [
  .op ⟨some 16, none, .mv (.tmp 1)⟩,
  .op ⟨some 17, none, .mv (.tmp 3)⟩,
  .op ⟨some 18, none, .call 18 [(.tmp 16), (.tmp 17)]⟩,
  .op ⟨some 15, none, .mv (.tmp 18)⟩,
  .op ⟨some 19, none, .ext (.tmp 15) 0⟩,
  .op ⟨some 20, none, .ext (.tmp 15) 1⟩,
  .op ⟨some 10, none, .mv (.tmp 19)⟩,
  .op ⟨some 11, none, .mv (.tmp 20)⟩]
def r11_2 : List J := [
  .op ⟨some 21, none, .mv (.tmp 11)⟩,
  .op ⟨some 22, none, .un .not (.tmp 21)⟩,
  .op ⟨some 23, none, .mv (.tmp 22)⟩,
  .lg true 23 26 none [.op ⟨some 24, (some (23, false)), .mv (.tmp 2)⟩, .op ⟨some 25, (some (23, false)), .bin .lss (.tmp 24) (.const (.int .i64 0))⟩] (.tmp 25),
  .op ⟨some 27, none, .mv (.tmp 26)⟩,
  .lg true 27 31 none [.op ⟨some 28, (some (27, false)), .mv (.tmp 2)⟩, .op ⟨some 29, (some (27, false)), .mv (.tmp 1)⟩, .op ⟨some 30, (some (27, false)), .bin .gtr (.tmp 28) (.tmp 29)⟩] (.tmp 30)]
def r11_3 : List J := [
  .op ⟨some 32, none, .ld 3 true (.tmp 4)⟩,
  .op ⟨none, none, .st 3 (.tmp 8) (.tmp 32)⟩,
  .op ⟨some 9, none, .mv (.const (.int .i64 2))⟩]
def r11_4 : List J := [
  .op ⟨some 33, none, .mv (.tmp 2)⟩,
  .op ⟨some 34, none, .mv (.tmp 3)⟩,
  .op ⟨some 35, none, .bin .mul (.tmp 33) (.tmp 34)⟩,
  .op ⟨some 12, none, .mv (.tmp 35)⟩]
def r11_5 : List J := [
  .op ⟨some 37, none, .ld 3 true (.tmp 4)⟩,
  .op ⟨some 38, none, .mv (.tmp 10)⟩,
  .op ⟨some 39, none, .mv (.tmp 12)⟩,
  .op ⟨some 40, none, .bin .sub (.tmp 38) (.tmp 39)⟩,
  .op ⟨some 41, none, .call 16 [(.tmp 37), (.const (.int .i64 1)), (.const (.int .i64 2)), (.tmp 40)]⟩,
  .op ⟨some 36, none, .mv (.tmp 41)⟩,
  .op ⟨some 42, none, .ext (.tmp 36) 0⟩,
  .op ⟨some 43, none, .ext (.tmp 36) 1⟩,
  .op ⟨some 13, none, .al 27 [.ints .i64 3 (List.replicate 3 0)]⟩,
  .op ⟨none, none, .st 3 (.tmp 13) (.tmp 42)⟩,
  .op ⟨some 14, none, .mv (.tmp 43)⟩]
def r11_6 : List J := [
  .op ⟨some 44, none, .mv (.tmp 14)⟩,
  .op ⟨some 45, none, .bin .neq (.tmp 44) (.const (.int .i64 0))⟩]
def r11_7 : List J := [
  .op ⟨some 46, none, .ld 3 true (.tmp 4)⟩,
  .op ⟨some 47, none, .mv (.tmp 14)⟩,
  .op ⟨none, none, .st 3 (.tmp 8) (.tmp 46)⟩,
  .op ⟨some 9, none, .mv (.tmp 47)⟩]
def r11_8 : List J := [
  .op ⟨some 49, none, .ld 3 true (.tmp 13)⟩,
  .op ⟨some 50, none, .mv (.tmp 12)⟩,
  .op ⟨some 51, none, .call 16 [(.tmp 49), (.const (.int .i64 1)), (.const (.int .i64 0)), (.tmp 50)]⟩,
  .op ⟨some 48, none, .mv (.tmp 51)⟩,
  .op ⟨some 52, none, .ext (.tmp 48) 0⟩,
  .op ⟨some 53, none, .ext (.tmp 48) 1⟩,
  .op ⟨none, none, .st 3 (.tmp 13) (.tmp 52)⟩,
  .op ⟨some 14, none, .mv (.tmp 53)⟩]
def r11_9 : List J := [
  .op ⟨some 54, none, .mv (.tmp 14)⟩,
  .op ⟨some 55, none, .bin .neq (.tmp 54) (.const (.int .i64 0))⟩]
def r11_10 : List J := [
  .op ⟨some 56, none, .ld 3 true (.tmp 4)⟩,
  .op ⟨some 57, none, .mv (.tmp 14)⟩,
  .op ⟨none, none, .st 3 (.tmp 8) (.tmp 56)⟩,
  .op ⟨some 9, none, .mv (.tmp 57)⟩]
def r11_11 : List J := [
  .op ⟨some 58, none, .ld 3 true (.tmp 13)⟩,
  .op ⟨none, none, .st 3 (.tmp 8) (.tmp 58)⟩,
  .op ⟨some 9, none, .mv (.const (.int .i64 0))⟩]
def d11 : FnD := ⟨59, [.cell 8 3 true, .tmp 9], (.seq (.ops r11_0) (.seq (.ops r11_1) (.seq (.seq (.ops r11_2) (.cond (.tmp 31) (.seq (.ops r11_3) .ret) .skip)) (.seq (.ops r11_4) (.seq (.ops r11_5) (.seq (.seq (.ops r11_6) (.cond (.tmp 45) (.seq (.ops r11_7) .ret) .skip)) (.seq (.seq (.ops r11_8) (.seq (.ops r11_9) (.cond (.tmp 55) (.seq (.ops r11_10) .ret) .skip))) (.seq (.ops r11_11) .ret))))))))⟩
theorem ok11 : okF Tryd.prog 11 d11 = true := by kernel_rfl
/- farebox/ledger.Retire -/
def r12_0 : List J := [
  .op ⟨some 3, none, .bx 27 (.tmp 0)⟩,
  .op ⟨some 6, none, .al 27 [.ints .i64 3 (List.replicate 3 0)]⟩,
  .op ⟨some 7, none, .mv (.const (.int .i64 0))⟩]
def r12_1 : List J := [
  .op ⟨some 11, none, .mv (.tmp 1)⟩,
  .op ⟨some 12, none, .mv (.tmp 2)⟩,
  .op ⟨some 13, none, .call 18 [(.tmp 11), (.tmp 12)]⟩,
  .op ⟨some 10, none, .mv (.tmp 13)⟩,
  .op ⟨some 14, none, .ext (.tmp 10) 0⟩,
  .op ⟨some 15, none, .ext (.tmp 10) 1⟩,
  .op ⟨some 8, none, .mv (.tmp 14)⟩,
  .op ⟨some 9, none, .mv (.tmp 15)⟩]
def r12_2 : List J := [
  .op ⟨some 16, none, .mv (.tmp 9)⟩,
  .op ⟨some 17, none, .un .not (.tmp 16)⟩]
def r12_3 : List J := [
  .op ⟨some 18, none, .ld 3 true (.tmp 3)⟩,
  .op ⟨none, none, .st 3 (.tmp 6) (.tmp 18)⟩,
  .op ⟨some 7, none, .mv (.const (.int .i64 2))⟩]
def r12_4 : List J := [
  .op ⟨some 19, none, .ld 3 true (.tmp 3)⟩,
  .op ⟨some 20, none, .mv (.tmp 8)⟩,
  .op ⟨some 21, none, .call 16 [(.tmp 19), (.const (.int .i64 1)), (.const (.int .i64 2)), (.tmp 20)]⟩,
  .op ⟨some 22, none, .ext (.tmp 21) 0⟩,
  .op ⟨some 23, none, .ext (.tmp 21) 1⟩,
  .op ⟨none, none, .st 3 (.tmp 6) (.tmp 22)⟩,
  .op ⟨some 7, none, .mv (.tmp 23)⟩]
def d12 : FnD := ⟨24, [.cell 6 3 true, .tmp 7], (.seq (.ops r12_0) (.seq (.ops r12_1) (.seq (.seq (.ops r12_2) (.cond (.tmp 17) (.seq (.ops r12_3) .ret) .skip)) (.seq (.ops r12_4) .ret))))⟩
theorem ok12 : okF Tryd.prog 12 d12 = true := by kernel_rfl
/- farebox/ledger.Balance -/
def r13_0 : List J := [
  .op ⟨some 2, none, .bx 27 (.tmp 0)⟩,
  .op ⟨some 4, none, .mv (.const (.int .i64 0))⟩,
  .op ⟨some 5, none, .mv (.const (.int .i64 0))⟩]
def r13_1 : List J := [
  .op ⟨some 7, none, .mv (.tmp 1)⟩,
  .op ⟨some 8, none, .call 19 [(.tmp 7)]⟩,
  .op ⟨some 9, none, .un .not (.tmp 8)⟩,
  .op ⟨some 6, none, .mv (.tmp 9)⟩]
def r13_2 : List J := [
  .op ⟨some 4, none, .mv (.const (.int .i64 0))⟩,
  .op ⟨some 5, none, .mv (.const (.int .i64 2))⟩]
def r13_3 : List J := [
  .op ⟨some 11, none, .mv (.tmp 1)⟩,
  .op ⟨some 12, none, .fa 0 (.tmp 2)⟩,
  .op ⟨some 13, none, .ia 3 1 (.tmp 12) (.tmp 11)⟩,
  .op ⟨some 14, none, .ld 1 false (.tmp 13)⟩,
  .op ⟨some 15, none, .bin .eql (.tmp 14) (.const (.int .i64 (-9223372036854775808)))⟩,
  .op ⟨some 10, none, .mv (.tmp 15)⟩]
def r13_4 : List J := [
  .op ⟨some 4, none, .mv (.const (.int .i64 0))⟩,
  .op ⟨some 5, none, .mv (.const (.int .i64 3))⟩]
def k13_0 : IC := (.seq (.ops r13_1) (.cond (.tmp 6) (.seq (.ops r13_2) .ret) (.seq (.ops r13_3) (.cond (.tmp 10) (.seq (.ops r13_4) .ret) .skip))))
def r13_5 : List SJ := [
  .q [0] (.op ⟨some 16, none, .mv (.tmp 1)⟩),
  .q [1] (.op ⟨some 17, none, .ia 3 1 (.global 0) (.tmp 16)⟩),
  .q [2] (.op ⟨some 18, none, .ld 1 false (.tmp 17)⟩),
  .q [3] (.op ⟨some 19, none, .mv (.tmp 1)⟩),
  .q [4] (.op ⟨some 20, none, .fa 0 (.tmp 2)⟩),
  .q [5] (.op ⟨some 21, none, .ia 3 1 (.tmp 20) (.tmp 19)⟩),
  .q [6] (.op ⟨some 22, none, .ld 1 false (.tmp 21)⟩),
  .q [7] (.op ⟨some 23, none, .bin .mul (.tmp 18) (.tmp 22)⟩),
  .q [8] (.op ⟨some 4, none, .mv (.tmp 23)⟩),
  .q [9] (.op ⟨some 5, none, .mv (.const (.int .i64 0))⟩)]
def d13 : FnD := ⟨24, [.tmp 4, .tmp 5], (.seq (.ops r13_0) (.seq (.block 0 k13_0) (.seq (.draw r13_5 []) .ret)))⟩
theorem ok13 : okF Tryd.prog 13 d13 = true := by kernel_rfl
/- farebox/ledger.Even -/
def r6_0 : List J := [
  .op ⟨some 1, none, .bx 27 (.tmp 0)⟩,
  .op ⟨some 2, none, .mv (.const (.bool false))⟩]
def r6_1 : List J := [
  .op ⟨some 6, none, .mv (.const (.int .i64 0))⟩]
def r6_2 : List J := [
  .op ⟨some 7, none, .bin .lss (.tmp 6) (.const (.int .i64 3))⟩]
def r6_3 : List J := [
  .op ⟨some 8, none, .mv (.tmp 6)⟩,
  .op ⟨some 3, none, .mv (.tmp 8)⟩]
def r6_4 : List J := [
  .op ⟨some 10, none, .ld 3 true (.tmp 1)⟩,
  .op ⟨some 11, none, .mv (.tmp 3)⟩,
  .op ⟨some 12, none, .call 13 [(.tmp 10), (.tmp 11)]⟩,
  .op ⟨some 9, none, .mv (.tmp 12)⟩,
  .op ⟨some 13, none, .ext (.tmp 9) 0⟩,
  .op ⟨some 14, none, .ext (.tmp 9) 1⟩,
  .op ⟨some 4, none, .mv (.tmp 13)⟩,
  .op ⟨some 5, none, .mv (.tmp 14)⟩]
def r6_5 : List J := [
  .op ⟨some 15, none, .mv (.tmp 5)⟩,
  .op ⟨some 16, none, .bin .neq (.tmp 15) (.const (.int .i64 0))⟩,
  .op ⟨some 17, none, .mv (.tmp 16)⟩,
  .lg true 17 20 none [.op ⟨some 18, (some (17, false)), .mv (.tmp 4)⟩, .op ⟨some 19, (some (17, false)), .bin .lss (.tmp 18) (.const (.int .i64 0))⟩] (.tmp 19)]
def r6_6 : List J := [
  .op ⟨some 2, none, .mv (.const (.bool false))⟩]
def k6_1 : IC := (.seq (.ops r6_3) (.seq (.ops r6_4) (.seq (.ops r6_5) (.cond (.tmp 20) (.seq (.ops r6_6) .ret) .skip))))
def r6_7 : List J := [
  .op ⟨some 21, none, .bin .add (.tmp 6) (.const (.int .i64 1))⟩,
  .op ⟨some 6, none, .mv (.tmp 21)⟩]
def l6_1 : IC := (.seq (.ops r6_2) (.seq (.cond (.tmp 7) .skip (.exit 0)) (.seq (.block 1 k6_1) (.ops r6_7))))
def k6_0 : IC := (.loop l6_1)
def r6_8 : List J := [
  .op ⟨some 22, none, .fa 0 (.tmp 1)⟩,
  .op ⟨some 23, none, .ia 3 1 (.tmp 22) (.const (.int .i64 0))⟩,
  .op ⟨some 24, none, .ld 1 false (.tmp 23)⟩,
  .op ⟨some 25, none, .fa 0 (.tmp 1)⟩,
  .op ⟨some 26, none, .ia 3 1 (.tmp 25) (.const (.int .i64 1))⟩,
  .op ⟨some 27, none, .ld 1 false (.tmp 26)⟩,
  .op ⟨some 28, none, .bin .add (.tmp 24) (.tmp 27)⟩,
  .op ⟨some 29, none, .fa 0 (.tmp 1)⟩,
  .op ⟨some 30, none, .ia 3 1 (.tmp 29) (.const (.int .i64 2))⟩,
  .op ⟨some 31, none, .ld 1 false (.tmp 30)⟩,
  .op ⟨some 32, none, .un .neg (.tmp 31)⟩,
  .op ⟨some 33, none, .bin .eql (.tmp 28) (.tmp 32)⟩,
  .op ⟨some 2, none, .mv (.tmp 33)⟩]
def d6 : FnD := ⟨34, [.tmp 2], (.seq (.ops r6_0) (.seq (.seq (.ops r6_1) (.block 0 k6_0)) (.seq (.ops r6_8) .ret)))⟩
theorem ok6 : okF Tryd.prog 6 d6 = true := by kernel_rfl
/- farebox/fareboxlaw22.mine -/
def r7_0 : List J := [
  .op ⟨some 2, none, .bx 27 (.tmp 0)⟩,
  .op ⟨some 3, none, .bx 23 (.tmp 1)⟩,
  .op ⟨some 4, none, .al 27 [.ints .i64 3 (List.replicate 3 0)]⟩,
  .op ⟨some 5, none, .mv (.const (.int .i64 0))⟩]
def r7_1 : List J := [
  .op ⟨some 6, none, .mv (.const (.int .i64 0))⟩]
def r7_2 : List J := [
  .op ⟨some 8, none, .ld 3 true (.tmp 2)⟩,
  .op ⟨some 7, none, .al 27 [.ints .i64 3 (List.replicate 3 0)]⟩,
  .op ⟨none, none, .st 3 (.tmp 7) (.tmp 8)⟩]
def r7_3 : List J := [
  .op ⟨some 9, none, .fa 0 (.tmp 3)⟩,
  .op ⟨some 10, none, .ld 1 false (.tmp 9)⟩]
def r7_4 : List J := [
  .op ⟨some 12, none, .bin .eql (.tmp 10) (.const (.int .i64 1))⟩,
  .op ⟨some 11, none, .mv (.tmp 12)⟩]
def r7_5 : List J := [
  .op ⟨some 14, none, .ld 3 true (.tmp 2)⟩,
  .op ⟨some 15, none, .fa 1 (.tmp 3)⟩,
  .op ⟨some 16, none, .ld 1 false (.tmp 15)⟩,
  .op ⟨some 17, none, .fa 2 (.tmp 3)⟩,
  .op ⟨some 18, none, .ld 1 false (.tmp 17)⟩,
  .op ⟨some 19, none, .fa 3 (.tmp 3)⟩,
  .op ⟨some 20, none, .ld 1 false (.tmp 19)⟩,
  .op ⟨some 21, none, .call 16 [(.tmp 14), (.tmp 16), (.tmp 18), (.tmp 20)]⟩,
  .op ⟨some 13, none, .mv (.tmp 21)⟩,
  .op ⟨some 22, none, .ext (.tmp 13) 0⟩,
  .op ⟨some 23, none, .ext (.tmp 13) 1⟩,
  .op ⟨none, none, .st 3 (.tmp 7) (.tmp 22)⟩,
  .op ⟨some 6, none, .mv (.tmp 23)⟩]
def r7_6 : List J := [
  .op ⟨some 25, none, .bin .eql (.tmp 10) (.const (.int .i64 2))⟩,
  .op ⟨some 24, none, .mv (.tmp 25)⟩]
def r7_7 : List J := [
  .op ⟨some 27, none, .ld 3 true (.tmp 2)⟩,
  .op ⟨some 28, none, .fa 4 (.tmp 3)⟩,
  .op ⟨some 29, none, .ld 1 false (.tmp 28)⟩,
  .op ⟨some 30, none, .fa 6 (.tmp 3)⟩,
  .op ⟨some 31, none, .ld 1 false (.tmp 30)⟩,
  .op ⟨some 32, none, .call 9 [(.tmp 27), (.tmp 29), (.tmp 31)]⟩,
  .op ⟨some 26, none, .mv (.tmp 32)⟩,
  .op ⟨some 33, none, .ext (.tmp 26) 0⟩,
  .op ⟨some 34, none, .ext (.tmp 26) 1⟩,
  .op ⟨none, none, .st 3 (.tmp 7) (.tmp 33)⟩,
  .op ⟨some 6, none, .mv (.tmp 34)⟩]
def r7_8 : List J := [
  .op ⟨some 36, none, .bin .eql (.tmp 10) (.const (.int .i64 3))⟩,
  .op ⟨some 35, none, .mv (.tmp 36)⟩]
def r7_9 : List J := [
  .op ⟨some 38, none, .ld 3 true (.tmp 2)⟩,
  .op ⟨some 39, none, .fa 4 (.tmp 3)⟩,
  .op ⟨some 40, none, .ld 1 false (.tmp 39)⟩,
  .op ⟨some 41, none, .fa 5 (.tmp 3)⟩,
  .op ⟨some 42, none, .ld 1 false (.tmp 41)⟩,
  .op ⟨some 43, none, .fa 6 (.tmp 3)⟩,
  .op ⟨some 44, none, .ld 1 false (.tmp 43)⟩,
  .op ⟨some 45, none, .call 11 [(.tmp 38), (.tmp 40), (.tmp 42), (.tmp 44)]⟩,
  .op ⟨some 37, none, .mv (.tmp 45)⟩,
  .op ⟨some 46, none, .ext (.tmp 37) 0⟩,
  .op ⟨some 47, none, .ext (.tmp 37) 1⟩,
  .op ⟨none, none, .st 3 (.tmp 7) (.tmp 46)⟩,
  .op ⟨some 6, none, .mv (.tmp 47)⟩]
def r7_10 : List J := [
  .op ⟨some 49, none, .bin .eql (.tmp 10) (.const (.int .i64 4))⟩,
  .op ⟨some 48, none, .mv (.tmp 49)⟩]
def r7_11 : List J := [
  .op ⟨some 51, none, .ld 3 true (.tmp 2)⟩,
  .op ⟨some 52, none, .fa 4 (.tmp 3)⟩,
  .op ⟨some 53, none, .ld 1 false (.tmp 52)⟩,
  .op ⟨some 54, none, .fa 6 (.tmp 3)⟩,
  .op ⟨some 55, none, .ld 1 false (.tmp 54)⟩,
  .op ⟨some 56, none, .call 12 [(.tmp 51), (.tmp 53), (.tmp 55)]⟩,
  .op ⟨some 50, none, .mv (.tmp 56)⟩,
  .op ⟨some 57, none, .ext (.tmp 50) 0⟩,
  .op ⟨some 58, none, .ext (.tmp 50) 1⟩,
  .op ⟨none, none, .st 3 (.tmp 7) (.tmp 57)⟩,
  .op ⟨some 6, none, .mv (.tmp 58)⟩]
def k7_0 : IC := (.seq (.ops r7_4) (.cond (.tmp 11) (.ops r7_5) (.seq (.ops r7_6) (.cond (.tmp 24) (.ops r7_7) (.seq (.ops r7_8) (.cond (.tmp 35) (.ops r7_9) (.seq (.ops r7_10) (.cond (.tmp 48) (.ops r7_11) .skip))))))))
def r7_12 : List J := [
  .op ⟨some 59, none, .ld 3 true (.tmp 7)⟩,
  .op ⟨some 60, none, .mv (.tmp 6)⟩,
  .op ⟨none, none, .st 3 (.tmp 4) (.tmp 59)⟩,
  .op ⟨some 5, none, .mv (.tmp 60)⟩]
def d7 : FnD := ⟨61, [.cell 4 3 true, .tmp 5], (.seq (.ops r7_0) (.seq (.ops r7_1) (.seq (.ops r7_2) (.seq (.seq (.ops r7_3) (.block 0 k7_0)) (.seq (.ops r7_12) .ret)))))⟩
theorem ok7 : okF Tryd.prog 7 d7 = true := by kernel_rfl
/- farebox/fareboxlaw22.proper -/
def r8_0 : List J := [
  .op ⟨some 3, none, .bx 34 (.tmp 0)⟩,
  .op ⟨some 6, none, .al 34 [.one (.int .i64 0), .one (.int .i64 0), .one (.int .i64 0), .one (.int .i64 0), .one (.int .i64 0)]⟩]
def r8_1 : List J := [
  .op ⟨some 7, none, .fa 0 (.tmp 3)⟩,
  .op ⟨some 8, none, .ld 1 false (.tmp 7)⟩,
  .op ⟨some 9, none, .call 17 [(.tmp 8), (.const (.int .i64 1)), (.const (.int .i64 4096))]⟩,
  .op ⟨some 10, none, .fa 0 (.tmp 3)⟩,
  .op ⟨none, none, .st 1 (.tmp 10) (.tmp 9)⟩]
def r8_2 : List J := [
  .op ⟨some 11, none, .fa 1 (.tmp 3)⟩,
  .op ⟨some 12, none, .ld 1 false (.tmp 11)⟩,
  .op ⟨some 13, none, .call 17 [(.tmp 12), (.const (.int .i64 0)), (.const (.int .i64 1000000000))]⟩,
  .op ⟨some 14, none, .fa 1 (.tmp 3)⟩,
  .op ⟨none, none, .st 1 (.tmp 14) (.tmp 13)⟩]
def r8_3 : List J := [
  .op ⟨some 15, none, .fa 2 (.tmp 3)⟩,
  .op ⟨some 16, none, .ld 1 false (.tmp 15)⟩,
  .op ⟨some 17, none, .fa 0 (.tmp 3)⟩,
  .op ⟨some 18, none, .ld 1 false (.tmp 17)⟩,
  .op ⟨some 19, none, .call 17 [(.tmp 16), (.const (.int .i64 0)), (.tmp 18)]⟩,
  .op ⟨some 20, none, .fa 2 (.tmp 3)⟩,
  .op ⟨none, none, .st 1 (.tmp 20) (.tmp 19)⟩]
def r8_4 : List J := [
  .op ⟨some 21, none, .fa 4 (.tmp 3)⟩,
  .op ⟨some 22, none, .ld 1 false (.tmp 21)⟩,
  .op ⟨some 23, none, .mv (.tmp 1)⟩,
  .op ⟨some 24, none, .mv (.tmp 2)⟩,
  .op ⟨some 25, none, .call 17 [(.tmp 22), (.tmp 23), (.tmp 24)]⟩,
  .op ⟨some 26, none, .fa 4 (.tmp 3)⟩,
  .op ⟨none, none, .st 1 (.tmp 26) (.tmp 25)⟩]
def r8_5 : List J := [
  .op ⟨some 27, none, .ld 5 true (.tmp 3)⟩,
  .op ⟨none, none, .st 5 (.tmp 6) (.tmp 27)⟩]
def d8 : FnD := ⟨28, [.cell 6 5 true], (.seq (.ops r8_0) (.seq (.ops r8_1) (.seq (.ops r8_2) (.seq (.ops r8_3) (.seq (.ops r8_4) (.seq (.ops r8_5) .ret))))))⟩
theorem ok8 : okF Tryd.prog 8 d8 = true := by kernel_rfl
/- farebox/fareboxlaw22.into -/
def r17_0 : List J := [
  .op ⟨some 6, none, .mv (.const (.int .i64 0))⟩]
def r17_1 : List J := [
  .op ⟨some 8, none, .mv (.tmp 0)⟩,
  .op ⟨some 9, none, .mv (.tmp 1)⟩,
  .op ⟨some 10, none, .bin .lss (.tmp 8) (.tmp 9)⟩,
  .op ⟨some 11, none, .mv (.tmp 10)⟩,
  .lg true 11 15 none [.op ⟨some 12, (some (11, false)), .mv (.tmp 0)⟩, .op ⟨some 13, (some (11, false)), .mv (.tmp 2)⟩, .op ⟨some 14, (some (11, false)), .bin .gtr (.tmp 12) (.tmp 13)⟩] (.tmp 14)]
def r17_2 : List J := [
  .op ⟨some 16, none, .mv (.tmp 0)⟩,
  .op ⟨some 17, none, .mv (.tmp 2)⟩,
  .op ⟨some 18, none, .mv (.tmp 1)⟩,
  .op ⟨some 19, none, .bin .sub (.tmp 17) (.tmp 18)⟩,
  .op ⟨some 20, none, .bin .add (.tmp 19) (.const (.int .i64 1))⟩,
  .op ⟨some 21, none, .bin .rem (.tmp 16) (.tmp 20)⟩,
  .op ⟨some 7, none, .mv (.tmp 21)⟩]
def r17_3 : List J := [
  .op ⟨some 22, none, .mv (.tmp 7)⟩,
  .op ⟨some 23, none, .bin .lss (.tmp 22) (.const (.int .i64 0))⟩]
def r17_4 : List J := [
  .op ⟨some 24, none, .mv (.tmp 7)⟩,
  .op ⟨some 25, none, .un .neg (.tmp 24)⟩,
  .op ⟨some 7, none, .mv (.tmp 25)⟩]
def r17_5 : List J := [
  .op ⟨some 26, none, .mv (.tmp 1)⟩,
  .op ⟨some 27, none, .mv (.tmp 7)⟩,
  .op ⟨some 28, none, .bin .add (.tmp 26) (.tmp 27)⟩,
  .op ⟨some 6, none, .mv (.tmp 28)⟩]
def r17_6 : List J := [
  .op ⟨some 29, none, .mv (.tmp 0)⟩,
  .op ⟨some 6, none, .mv (.tmp 29)⟩]
def d17 : FnD := ⟨30, [.tmp 6], (.seq (.ops r17_0) (.seq (.seq (.ops r17_1) (.cond (.tmp 15) (.seq (.ops r17_2) (.seq (.seq (.ops r17_3) (.cond (.tmp 23) (.ops r17_4) .skip)) (.seq (.ops r17_5) .ret))) .skip)) (.seq (.ops r17_6) .ret)))⟩
theorem ok17 : okF Tryd.prog 17 d17 = true := by kernel_rfl
/- farebox/fareboxlaw22.cost -/
def r10_0 : List J := [
  .op ⟨some 4, none, .mv (.const (.int .i64 0))⟩]
def r10_1 : List J := [
  .op ⟨some 5, none, .mv (.tmp 0)⟩,
  .op ⟨some 6, none, .mv (.tmp 1)⟩,
  .op ⟨some 7, none, .bin .mul (.tmp 5) (.tmp 6)⟩,
  .op ⟨some 4, none, .mv (.tmp 7)⟩]
def d10 : FnD := ⟨8, [.tmp 4], (.seq (.ops r10_0) (.seq (.ops r10_1) .ret))⟩
theorem ok10 : okF Tryd.prog 10 d10 = true := by kernel_rfl
/- farebox/fareboxlaw22.wanted -/
def r14_0 : List J := [
  .op ⟨some 2, none, .bx 27 (.tmp 0)⟩,
  .op ⟨some 3, none, .bx 23 (.tmp 1)⟩,
  .op ⟨some 4, none, .al 27 [.ints .i64 3 (List.replicate 3 0)]⟩,
  .op ⟨some 5, none, .mv (.const (.int .i64 0))⟩]
def r14_1 : List J := [
  .op ⟨some 6, none, .fa 0 (.tmp 3)⟩,
  .op ⟨some 7, none, .ld 1 false (.tmp 6)⟩]
def r14_2 : List J := [
  .op ⟨some 9, none, .bin .eql (.tmp 7) (.const (.int .i64 1))⟩,
  .op ⟨some 8, none, .mv (.tmp 9)⟩]
def r14_3 : List J := [
  .op ⟨some 10, none, .ld 3 true (.tmp 2)⟩,
  .op ⟨some 11, none, .fa 1 (.tmp 3)⟩,
  .op ⟨some 12, none, .ld 1 false (.tmp 11)⟩,
  .op ⟨some 13, none, .fa 2 (.tmp 3)⟩,
  .op ⟨some 14, none, .ld 1 false (.tmp 13)⟩,
  .op ⟨some 15, none, .fa 3 (.tmp 3)⟩,
  .op ⟨some 16, none, .ld 1 false (.tmp 15)⟩,
  .op ⟨some 17, none, .call 20 [(.tmp 10), (.tmp 12), (.tmp 14), (.tmp 16)]⟩,
  .op ⟨some 18, none, .ext (.tmp 17) 0⟩,
  .op ⟨some 19, none, .ext (.tmp 17) 1⟩,
  .op ⟨none, none, .st 3 (.tmp 4) (.tmp 18)⟩,
  .op ⟨some 5, none, .mv (.tmp 19)⟩]
def r14_4 : List J := [
  .op ⟨some 21, none, .bin .eql (.tmp 7) (.const (.int .i64 2))⟩,
  .op ⟨some 20, none, .mv (.tmp 21)⟩]
def r14_5 : List J := [
  .op ⟨some 22, none, .ld 3 true (.tmp 2)⟩,
  .op ⟨some 23, none, .fa 4 (.tmp 3)⟩,
  .op ⟨some 24, none, .ld 1 false (.tmp 23)⟩,
  .op ⟨some 25, none, .fa 6 (.tmp 3)⟩,
  .op ⟨some 26, none, .ld 1 false (.tmp 25)⟩,
  .op ⟨some 27, none, .call 21 [(.tmp 22), (.tmp 24), (.tmp 26)]⟩,
  .op ⟨some 28, none, .ext (.tmp 27) 0⟩,
  .op ⟨some 29, none, .ext (.tmp 27) 1⟩,
  .op ⟨none, none, .st 3 (.tmp 4) (.tmp 28)⟩,
  .op ⟨some 5, none, .mv (.tmp 29)⟩]
def r14_6 : List J := [
  .op ⟨some 31, none, .bin .eql (.tmp 7) (.const (.int .i64 3))⟩,
  .op ⟨some 30, none, .mv (.tmp 31)⟩]
def r14_7 : List J := [
  .op ⟨some 32, none, .ld 3 true (.tmp 2)⟩,
  .op ⟨some 33, none, .fa 4 (.tmp 3)⟩,
  .op ⟨some 34, none, .ld 1 false (.tmp 33)⟩,
  .op ⟨some 35, none, .fa 5 (.tmp 3)⟩,
  .op ⟨some 36, none, .ld 1 false (.tmp 35)⟩,
  .op ⟨some 37, none, .fa 6 (.tmp 3)⟩,
  .op ⟨some 38, none, .ld 1 false (.tmp 37)⟩,
  .op ⟨some 39, none, .call 22 [(.tmp 32), (.tmp 34), (.tmp 36), (.tmp 38)]⟩,
  .op ⟨some 40, none, .ext (.tmp 39) 0⟩,
  .op ⟨some 41, none, .ext (.tmp 39) 1⟩,
  .op ⟨none, none, .st 3 (.tmp 4) (.tmp 40)⟩,
  .op ⟨some 5, none, .mv (.tmp 41)⟩]
def r14_8 : List J := [
  .op ⟨some 43, none, .bin .eql (.tmp 7) (.const (.int .i64 4))⟩,
  .op ⟨some 42, none, .mv (.tmp 43)⟩]
def r14_9 : List J := [
  .op ⟨some 44, none, .ld 3 true (.tmp 2)⟩,
  .op ⟨some 45, none, .fa 4 (.tmp 3)⟩,
  .op ⟨some 46, none, .ld 1 false (.tmp 45)⟩,
  .op ⟨some 47, none, .fa 6 (.tmp 3)⟩,
  .op ⟨some 48, none, .ld 1 false (.tmp 47)⟩,
  .op ⟨some 49, none, .call 23 [(.tmp 44), (.tmp 46), (.tmp 48)]⟩,
  .op ⟨some 50, none, .ext (.tmp 49) 0⟩,
  .op ⟨some 51, none, .ext (.tmp 49) 1⟩,
  .op ⟨none, none, .st 3 (.tmp 4) (.tmp 50)⟩,
  .op ⟨some 5, none, .mv (.tmp 51)⟩]
def k14_0 : IC := (.seq (.ops r14_2) (.cond (.tmp 8) (.seq (.ops r14_3) .ret) (.seq (.ops r14_4) (.cond (.tmp 20) (.seq (.ops r14_5) .ret) (.seq (.ops r14_6) (.cond (.tmp 30) (.seq (.ops r14_7) .ret) (.seq (.ops r14_8) (.cond (.tmp 42) (.seq (.ops r14_9) .ret) .skip))))))))
def r14_10 : List J := [
  .op ⟨some 52, none, .ld 3 true (.tmp 2)⟩,
  .op ⟨none, none, .st 3 (.tmp 4) (.tmp 52)⟩,
  .op ⟨some 5, none, .mv (.const (.int .i64 0))⟩]
def d14 : FnD := ⟨53, [.cell 4 3 true, .tmp 5], (.seq (.ops r14_0) (.seq (.seq (.ops r14_1) (.block 0 k14_0)) (.seq (.ops r14_10) .ret)))⟩
theorem ok14 : okF Tryd.prog 14 d14 = true := by kernel_rfl
/- farebox/fareboxlaw22.asks -/
def r15_0 : List J := [
  .op ⟨some 2, none, .bx 27 (.tmp 0)⟩,
  .op ⟨some 3, none, .bx 23 (.tmp 1)⟩,
  .op ⟨some 4, none, .mv (.const (.bool false))⟩]
def r15_1 : List J := [
  .op ⟨some 10, none, .ld 3 true (.tmp 2)⟩,
  .op ⟨some 11, none, .fa 1 (.tmp 3)⟩,
  .op ⟨some 12, none, .ld 1 false (.tmp 11)⟩,
  .op ⟨some 13, none, .call 13 [(.tmp 10), (.tmp 12)]⟩,
  .op ⟨some 9, none, .mv (.tmp 13)⟩,
  .op ⟨some 14, none, .ext (.tmp 9) 0⟩,
  .op ⟨some 15, none, .ext (.tmp 9) 1⟩,
  .op ⟨some 5, none, .mv (.tmp 14)⟩,
  .op ⟨some 6, none, .mv (.tmp 15)⟩]
def r15_2 : List J := [
  .op ⟨some 17, none, .ld 3 true (.tmp 2)⟩,
  .op ⟨some 18, none, .fa 1 (.tmp 3)⟩,
  .op ⟨some 19, none, .ld 1 false (.tmp 18)⟩,
  .op ⟨some 20, none, .call 24 [(.tmp 17), (.tmp 19)]⟩,
  .op ⟨some 16, none, .mv (.tmp 20)⟩,
  .op ⟨some 21, none, .ext (.tmp 16) 0⟩,
  .op ⟨some 22, none, .ext (.tmp 16) 1⟩,
  .op ⟨some 7, none, .mv (.tmp 21)⟩,
  .op ⟨some 8, none, .mv (.tmp 22)⟩]
def r15_3 : List SJ := [
  .q [0] (.op ⟨some 23, none, .mv (.tmp 5)⟩),
  .q [1] (.op ⟨some 24, none, .mv (.tmp 7)⟩),
  .q [2] (.op ⟨some 25, none, .bin .eql (.tmp 23) (.tmp 24)⟩),
  .q [3] (.op ⟨some 26, none, .mv (.tmp 25)⟩),
  .q [4, 5, 6, 7] (.lg false 26 30 none [.op ⟨some 27, (some (26, true)), .mv (.tmp 6)⟩, .op ⟨some 28, (some (26, true)), .mv (.tmp 8)⟩, .op ⟨some 29, (some (26, true)), .bin .eql (.tmp 27) (.tmp 28)⟩] (.tmp 29)),
  .q [8] (.op ⟨some 31, none, .mv (.tmp 30)⟩),
  .q [9, 10, 11, 12, 13, 14] (.lg false 31 37 none [.op ⟨some 32, (some (31, true)), .ld 3 true (.tmp 2)⟩, .op ⟨some 33, (some (31, true)), .call 6 [(.tmp 32)]⟩, .op ⟨some 34, (some (31, true)), .ld 3 true (.tmp 2)⟩, .op ⟨some 35, (some (31, true)), .call 25 [(.tmp 34)]⟩, .op ⟨some 36, (some (31, true)), .beq false (.tmp 33) (.tmp 35)⟩] (.tmp 36)),
  .q [15] (.op ⟨some 4, none, .mv (.tmp 37)⟩)]
def d15 : FnD := ⟨38, [.tmp 4], (.seq (.ops r15_0) (.seq (.ops r15_1) (.seq (.ops r15_2) (.seq (.draw r15_3 []) .ret))))⟩
theorem ok15 : okF Tryd.prog 15 d15 = true := by kernel_rfl
/- farebox/fareboxlaw22.LedgerEven -/
def r3_0 : List J := [
  .op ⟨some 5, none, .bx 23 (.tmp 2)⟩,
  .op ⟨some 6, none, .mv (.const (.bool false))⟩]
def r3_1 : List J := [
  .op ⟨some 10, none, .mv (.tmp 0)⟩,
  .op ⟨some 11, none, .bin .lss (.tmp 10) (.const (.int .i64 0))⟩,
  .op ⟨some 12, none, .mv (.tmp 11)⟩,
  .lg true 12 15 none [.op ⟨some 13, (some (12, false)), .mv (.tmp 1)⟩, .op ⟨some 14, (some (12, false)), .bin .lss (.tmp 13) (.const (.int .i64 0))⟩] (.tmp 14),
  .op ⟨some 16, none, .mv (.tmp 15)⟩,
  .lg true 16 20 none [.op ⟨some 17, (some (16, false)), .mv (.tmp 1)⟩, .op ⟨some 18, (some (16, false)), .mv (.tmp 0)⟩, .op ⟨some 19, (some (16, false)), .bin .gtr (.tmp 17) (.tmp 18)⟩] (.tmp 19)]
def r3_2 : List J := [
  .op ⟨some 21, none, .bd [.ints .i64 3 (List.replicate 3 0)] []⟩,
  .op ⟨some 22, none, .call 6 [(.tmp 21)]⟩,
  .op ⟨some 6, none, .mv (.tmp 22)⟩]
def r3_3 : List J := [
  .op ⟨some 23, none, .mv (.tmp 0)⟩,
  .op ⟨some 24, none, .mv (.tmp 1)⟩,
  .op ⟨some 25, none, .mv (.tmp 0)⟩,
  .op ⟨some 26, none, .bin .sub (.tmp 24) (.tmp 25)⟩,
  .op ⟨some 27, none, .mv (.tmp 1)⟩,
  .op ⟨some 28, none, .un .neg (.tmp 27)⟩,
  .op ⟨some 29, none, .bd [.ints .i64 3 (List.replicate 3 0)] [(0, 1, (.tmp 23)), (1, 1, (.tmp 26)), (2, 1, (.tmp 28))]⟩,
  .op ⟨some 30, none, .bd [.ints .i64 3 (List.replicate 3 0)] [(0, 3, (.tmp 29))]⟩,
  .op ⟨some 7, none, .al 27 [.ints .i64 3 (List.replicate 3 0)]⟩,
  .op ⟨none, none, .st 3 (.tmp 7) (.tmp 30)⟩]
def r3_4 : List J := [
  .op ⟨some 31, none, .ld 3 true (.tmp 7)⟩,
  .op ⟨some 32, none, .call 6 [(.tmp 31)]⟩,
  .op ⟨some 33, none, .un .not (.tmp 32)⟩]
def r3_5 : List J := [
  .op ⟨some 6, none, .mv (.const (.bool false))⟩]
def r3_6 : List J := [
  .op ⟨some 35, none, .ld 3 true (.tmp 7)⟩,
  .op ⟨some 36, none, .ld 7 true (.tmp 5)⟩,
  .op ⟨some 37, none, .call 7 [(.tmp 35), (.tmp 36)]⟩,
  .op ⟨some 34, none, .mv (.tmp 37)⟩,
  .op ⟨some 38, none, .ext (.tmp 34) 0⟩,
  .op ⟨some 39, none, .ext (.tmp 34) 1⟩,
  .op ⟨some 8, none, .al 27 [.ints .i64 3 (List.replicate 3 0)]⟩,
  .op ⟨none, none, .st 3 (.tmp 8) (.tmp 38)⟩,
  .op ⟨some 9, none, .mv (.tmp 39)⟩]
def r3_7 : List J := [
  .op ⟨some 40, none, .mv (.tmp 9)⟩,
  .op ⟨some 41, none, .bin .neq (.tmp 40) (.const (.int .i64 0))⟩]
def r3_8 : List J := [
  .op ⟨some 42, none, .ld 3 true (.tmp 8)⟩,
  .op ⟨some 43, none, .ld 3 true (.tmp 7)⟩,
  .op ⟨some 44, none, .eqa false [(.i .i64, 3)] (.tmp 42) (.tmp 43)⟩,
  .op ⟨some 6, none, .mv (.tmp 44)⟩]
def r3_9 : List J := [
  .op ⟨some 45, none, .fa 0 (.tmp 5)⟩,
  .op ⟨some 46, none, .ld 1 false (.tmp 45)⟩,
  .op ⟨some 47, none, .bin .eql (.tmp 46) (.const (.int .i64 1))⟩,
  .op ⟨some 48, none, .mv (.tmp 47)⟩,
  .lg false 48 74 none [.op ⟨some 49, (some (48, true)), .fa 1 (.tmp 5)⟩, .op ⟨some 50, (some (48, true)), .ld 1 false (.tmp 49)⟩, .op ⟨some 51, (some (48, true)), .bin .lss (.tmp 50) (.const (.int .i64 0))⟩, .op ⟨some 52, (some (48, true)), .mv (.tmp 51)⟩, .lg true 52 56 (some (48, true)) [.op ⟨some 53, (some (52, false)), .fa 1 (.tmp 5)⟩, .op ⟨some 54, (some (52, false)), .ld 1 false (.tmp 53)⟩, .op ⟨some 55, (some (52, false)), .bin .gtr (.tmp 54) (.const (.int .i64 2))⟩] (.tmp 55), .op ⟨some 57, (some (48, true)), .mv (.tmp 56)⟩, .lg true 57 61 (some (48, true)) [.op ⟨some 58, (some (57, false)), .fa 2 (.tmp 5)⟩, .op ⟨some 59, (some (57, false)), .ld 1 false (.tmp 58)⟩, .op ⟨some 60, (some (57, false)), .bin .lss (.tmp 59) (.const (.int .i64 0))⟩] (.tmp 60), .op ⟨some 62, (some (48, true)), .mv (.tmp 61)⟩, .lg true 62 66 (some (48, true)) [.op ⟨some 63, (some (62, false)), .fa 2 (.tmp 5)⟩, .op ⟨some 64, (some (62, false)), .ld 1 false (.tmp 63)⟩, .op ⟨some 65, (some (62, false)), .bin .gtr (.tmp 64) (.const (.int .i64 2))⟩] (.tmp 65), .op ⟨some 67, (some (48, true)), .mv (.tmp 66)⟩, .lg true 67 73 (some (48, true)) [.op ⟨some 68, (some (67, false)), .fa 1 (.tmp 5)⟩, .op ⟨some 69, (some (67, false)), .ld 1 false (.tmp 68)⟩, .op ⟨some 70, (some (67, false)), .fa 2 (.tmp 5)⟩, .op ⟨some 71, (some (67, false)), .ld 1 false (.tmp 70)⟩, .op ⟨some 72, (some (67, false)), .bin .eql (.tmp 69) (.tmp 71)⟩] (.tmp 72)] (.tmp 73)]
def r3_10 : List J := [
  .op ⟨some 6, none, .mv (.const (.bool false))⟩]
def r3_11 : List SJ := [
  .q [0] (.op ⟨some 75, none, .fa 0 (.tmp 5)⟩),
  .q [1] (.op ⟨some 76, none, .ld 1 false (.tmp 75)⟩),
  .q [2] (.op ⟨some 77, none, .bin .eql (.tmp 76) (.const (.int .i64 1))⟩),
  .q [3] (.op ⟨some 78, none, .mv (.tmp 77)⟩),
  .q [4, 5, 6, 7, 8, 9, 10, 11, 12, 13, 14, 15, 16, 17, 18, 19, 20, 21, 22, 23, 24, 25, 26, 27, 28, 29, 30, 31, 32, 33, 34, 35, 36, 37, 38, 39, 40, 41, 42, 43, 44, 45, 46, 47, 48, 49, 50, 51, 52, 53, 54, 55] (.lg false 78 130 none [.op ⟨some 79, (some (78, true)), .fa 1 (.tmp 5)⟩, .op ⟨some 80, (some (78, true)), .ld 1 false (.tmp 79)⟩, .op ⟨some 81, (some (78, true)), .fa 0 (.tmp 8)⟩, .op ⟨some 82, (some (78, true)), .ia 3 1 (.tmp 81) (.tmp 80)⟩, .op ⟨some 83, (some (78, true)), .ld 1 false (.tmp 82)⟩, .op ⟨some 84, (some (78, true)), .fa 1 (.tmp 5)⟩, .op ⟨some 85, (some (78, true)), .ld 1 false (.tmp 84)⟩, .op ⟨some 86, (some (78, true)), .fa 0 (.tmp 7)⟩, .op ⟨some 87, (some (78, true)), .ia 3 1 (.tmp 86) (.tmp 85)⟩, .op ⟨some 88, (some (78, true)), .ld 1 false (.tmp 87)⟩, .op ⟨some 89, (some (78, true)), .bin .sub (.tmp 83) (.tmp 88)⟩, .op ⟨some 90, (some (78, true)), .fa 3 (.tmp 5)⟩, .op ⟨some 91, (some (78, true)), .ld 1 false (.tmp 90)⟩, .op ⟨some 92, (some (78, true)), .bin .neq (.tmp 89) (.tmp 91)⟩, .op ⟨some 93, (some (78, true)), .mv (.tmp 92)⟩, .lg true 93 108 (some (78, true)) [.op ⟨some 94, (some (93, false)), .fa 2 (.tmp 5)⟩, .op ⟨some 95, (some (93, false)), .ld 1 false (.tmp 94)⟩, .op ⟨some 96, (some (93, false)), .fa 0 (.tmp 7)⟩, .op ⟨some 97, (some (93, false)), .ia 3 1 (.tmp 96) (.tmp 95)⟩, .op ⟨some 98, (some (93, false)), .ld 1 false (.tmp 97)⟩, .op ⟨some 99, (some (93, false)), .fa 2 (.tmp 5)⟩, .op ⟨some 100, (some (93, false)), .ld 1 false (.tmp 99)⟩, .op ⟨some 101, (some (93, false)), .fa 0 (.tmp 8)⟩, .op ⟨some 102, (some (93, false)), .ia 3 1 (.tmp 101) (.tmp 100)⟩, .op ⟨some 103, (some (93, false)), .ld 1 false (.tmp 102)⟩, .op ⟨some 104, (some (93, false)), .bin .sub (.tmp 98) (.tmp 103)⟩, .op ⟨some 105, (some (93, false)), .fa 3 (.tmp 5)⟩, .op ⟨some 106, (some (93, false)), .ld 1 false (.tmp 105)⟩, .op ⟨some 107, (some (93, false)), .bin .neq (.tmp 104) (.tmp 106)⟩] (.tmp 107), .op ⟨some 109, (some (78, true)), .mv (.tmp 108)⟩, .lg true 109 129 (some (78, true)) [.op ⟨some 110, (some (109, false)), .fa 1 (.tmp 5)⟩, .op ⟨some 111, (some (109, false)), .ld 1 false (.tmp 110)⟩, .op ⟨some 112, (some (109, false)), .bin .sub (.const (.int .i64 3)) (.tmp 111)⟩, .op ⟨some 113, (some (109, false)), .fa 2 (.tmp 5)⟩, .op ⟨some 114, (some (109, false)), .ld 1 false (.tmp 113)⟩, .op ⟨some 115, (some (109, false)), .bin .sub (.tmp 112) (.tmp 114)⟩, .op ⟨some 116, (some (109, false)), .fa 0 (.tmp 8)⟩, .op ⟨some 117, (some (109, false)), .ia 3 1 (.tmp 116) (.tmp 115)⟩, .op ⟨some 118, (some (109, false)), .ld 1 false (.tmp 117)⟩, .op ⟨some 119, (some (109, false)), .fa 1 (.tmp 5)⟩, .op ⟨some 120, (some (109, false)), .ld 1 false (.tmp 119)⟩, .op ⟨some 121, (some (109, false)), .bin .sub (.const (.int .i64 3)) (.tmp 120)⟩, .op ⟨some 122, (some (109, false)), .fa 2 (.tmp 5)⟩, .op ⟨some 123, (some (109, false)), .ld 1 false (.tmp 122)⟩, .op ⟨some 124, (some (109, false)), .bin .sub (.tmp 121) (.tmp 123)⟩, .op ⟨some 125, (some (109, false)), .fa 0 (.tmp 7)⟩, .op ⟨some 126, (some (109, false)), .ia 3 1 (.tmp 125) (.tmp 124)⟩, .op ⟨some 127, (some (109, false)), .ld 1 false (.tmp 126)⟩, .op ⟨some 128, (some (109, false)), .bin .neq (.tmp 118) (.tmp 127)⟩] (.tmp 128)] (.tmp 129))]
def r3_12 : List J := [
  .op ⟨some 6, none, .mv (.const (.bool false))⟩]
def r3_13 : List J := [
  .op ⟨some 131, none, .ld 3 true (.tmp 8)⟩,
  .op ⟨some 132, none, .call 6 [(.tmp 131)]⟩,
  .op ⟨some 6, none, .mv (.tmp 132)⟩]
def d3 : FnD := ⟨133, [.tmp 6], (.seq (.ops r3_0) (.seq (.seq (.ops r3_1) (.cond (.tmp 20) (.seq (.ops r3_2) .ret) .skip)) (.seq (.ops r3_3) (.seq (.seq (.ops r3_4) (.cond (.tmp 33) (.seq (.ops r3_5) .ret) .skip)) (.seq (.ops r3_6) (.seq (.seq (.ops r3_7) (.cond (.tmp 41) (.seq (.ops r3_8) .ret) .skip)) (.seq (.seq (.ops r3_9) (.cond (.tmp 74) (.seq (.ops r3_10) .ret) .skip)) (.seq (.seq (.draw r3_11 []) (.cond (.tmp 130) (.seq (.ops r3_12) .ret) .skip)) (.seq (.ops r3_13) .ret)))))))))⟩
theorem ok3 : okF Tryd.prog 3 d3 = true := by kernel_rfl
/- farebox/fareboxlaw22.LedgerCarnets -/
def r4_0 : List J := [
  .op ⟨some 2, none, .mv (.const (.bool false))⟩]
def r4_1 : List J := [
  .op ⟨some 17, none, .mv (.tmp 0)⟩,
  .op ⟨some 18, none, .len (.tmp 17)⟩,
  .op ⟨some 19, none, .bin .gtr (.tmp 18) (.const (.int .i64 200))⟩]
def r4_2 : List J := [
  .op ⟨some 2, none, .mv (.const (.bool true))⟩]
def r4_3 : List J := [
  .op ⟨some 3, none, .al 27 [.ints .i64 3 (List.replicate 3 0)]⟩]
def r4_4 : List J := [
  .op ⟨some 4, none, .mv (.const (.int .i64 0))⟩]
def r4_5 : List J := [
  .op ⟨some 5, none, .mv (.const (.int .i64 0))⟩]
def r4_6 : List J := [
  .op ⟨some 6, none, .mv (.const (.int .i64 0))⟩]
def r4_7 : List J := [
  .op ⟨some 7, none, .mv (.const (.int .i64 0))⟩]
def r4_8 : List J := [
  .op ⟨some 20, none, .mv (.tmp 7)⟩,
  .op ⟨some 21, none, .mv (.tmp 0)⟩,
  .op ⟨some 22, none, .len (.tmp 21)⟩,
  .op ⟨some 23, none, .bin .lss (.tmp 20) (.tmp 22)⟩]
def r4_10 : List J := [
  .op ⟨some 26, none, .mv (.tmp 0)⟩,
  .op ⟨some 27, none, .mv (.tmp 7)⟩,
  .op ⟨some 28, none, .ias 5 (.tmp 26) (.tmp 27)⟩,
  .op ⟨some 29, none, .ld 5 true (.tmp 28)⟩,
  .op ⟨some 30, none, .mv (.tmp 7)⟩,
  .op ⟨some 31, none, .mv (.tmp 0)⟩,
  .op ⟨some 32, none, .len (.tmp 31)⟩,
  .op ⟨some 33, none, .bin .sub (.tmp 32) (.const (.int .i64 1))⟩,
  .op ⟨some 34, none, .call 8 [(.tmp 29), (.tmp 30), (.tmp 33)]⟩,
  .op ⟨some 8, none, .al 34 [.one (.int .i64 0), .one (.int .i64 0), .one (.int .i64 0), .one (.int .i64 0), .one (.int .i64 0)]⟩,
  .op ⟨none, none, .st 5 (.tmp 8) (.tmp 34)⟩]
def r4_11 : List J := [
  .op ⟨some 36, none, .ld 3 true (.tmp 3)⟩,
  .op ⟨some 37, none, .fa 0 (.tmp 8)⟩,
  .op ⟨some 38, none, .ld 1 false (.tmp 37)⟩,
  .op ⟨some 39, none, .fa 1 (.tmp 8)⟩,
  .op ⟨some 40, none, .ld 1 false (.tmp 39)⟩,
  .op ⟨some 41, none, .call 9 [(.tmp 36), (.tmp 38), (.tmp 40)]⟩,
  .op ⟨some 35, none, .mv (.tmp 41)⟩,
  .op ⟨some 42, none, .ext (.tmp 35) 0⟩,
  .op ⟨some 43, none, .ext (.tmp 35) 1⟩,
  .op ⟨none, none, .st 3 (.tmp 3) (.tmp 42)⟩,
  .op ⟨some 4, none, .mv (.tmp 43)⟩]
def r4_12 : List J := [
  .op ⟨some 44, none, .mv (.tmp 5)⟩,
  .op ⟨some 45, none, .fa 0 (.tmp 8)⟩,
  .op ⟨some 46, none, .ld 1 false (.tmp 45)⟩,
  .op ⟨some 47, none, .fa 1 (.tmp 8)⟩,
  .op ⟨some 48, none, .ld 1 false (.tmp 47)⟩,
  .op ⟨some 49, none, .call 10 [(.tmp 46), (.tmp 48)]⟩,
  .op ⟨some 50, none, .bin .add (.tmp 44) (.tmp 49)⟩,
  .op ⟨some 5, none, .mv (.tmp 50)⟩]
def r4_13 : List J := [
  .op ⟨some 51, none, .mv (.tmp 4)⟩,
  .op ⟨some 52, none, .bin .neq (.tmp 51) (.const (.int .i64 0))⟩]
def r4_14 : List J := [
  .op ⟨some 2, none, .mv (.const (.bool false))⟩]
def r4_15 : List J := [
  .op ⟨some 9, none, .mv (.const (.int .i64 0))⟩]
def r4_16 : List J := [
  .op ⟨some 53, none, .mv (.tmp 9)⟩,
  .op ⟨some 54, none, .mv (.tmp 7)⟩,
  .op ⟨some 55, none, .bin .leq (.tmp 53) (.tmp 54)⟩]
def r4_18 : List J := [
  .op ⟨some 58, none, .mv (.tmp 0)⟩,
  .op ⟨some 59, none, .mv (.tmp 9)⟩,
  .op ⟨some 60, none, .ias 5 (.tmp 58) (.tmp 59)⟩,
  .op ⟨some 61, none, .ld 5 true (.tmp 60)⟩,
  .op ⟨some 62, none, .mv (.tmp 9)⟩,
  .op ⟨some 63, none, .mv (.tmp 0)⟩,
  .op ⟨some 64, none, .len (.tmp 63)⟩,
  .op ⟨some 65, none, .bin .sub (.tmp 64) (.const (.int .i64 1))⟩,
  .op ⟨some 66, none, .call 8 [(.tmp 61), (.tmp 62), (.tmp 65)]⟩,
  .op ⟨some 10, none, .al 34 [.one (.int .i64 0), .one (.int .i64 0), .one (.int .i64 0), .one (.int .i64 0), .one (.int .i64 0)]⟩,
  .op ⟨none, none, .st 5 (.tmp 10) (.tmp 66)⟩]
def r4_19 : List J := [
  .op ⟨some 67, none, .fa 4 (.tmp 10)⟩,
  .op ⟨some 68, none, .ld 1 false (.tmp 67)⟩,
  .op ⟨some 69, none, .mv (.tmp 7)⟩,
  .op ⟨some 70, none, .bin .neq (.tmp 68) (.tmp 69)⟩,
  .op ⟨some 71, none, .mv (.tmp 70)⟩,
  .lg true 71 75 none [.op ⟨some 72, (some (71, false)), .fa 3 (.tmp 10)⟩, .op ⟨some 73, (some (71, false)), .ld 1 false (.tmp 72)⟩, .op ⟨some 74, (some (71, false)), .bin .lss (.tmp 73) (.const (.int .i64 1))⟩] (.tmp 74),
  .op ⟨some 76, none, .mv (.tmp 75)⟩,
  .lg true 76 80 none [.op ⟨some 77, (some (76, false)), .fa 3 (.tmp 10)⟩, .op ⟨some 78, (some (76, false)), .ld 1 false (.tmp 77)⟩, .op ⟨some 79, (some (76, false)), .bin .gtr (.tmp 78) (.const (.int .i64 2))⟩] (.tmp 79)]
def r4_20 : List J := [
  .op ⟨some 81, none, .mv (.tmp 5)⟩,
  .op ⟨some 82, none, .fa 0 (.tmp 10)⟩,
  .op ⟨some 83, none, .ld 1 false (.tmp 82)⟩,
  .op ⟨some 84, none, .fa 1 (.tmp 10)⟩,
  .op ⟨some 85, none, .ld 1 false (.tmp 84)⟩,
  .op ⟨some 86, none, .call 10 [(.tmp 83), (.tmp 85)]⟩,
  .op ⟨some 87, none, .bin .sub (.tmp 81) (.tmp 86)⟩,
  .op ⟨some 5, none, .mv (.tmp 87)⟩]
def r4_21 : List J := [
  .op ⟨some 88, none, .fa 3 (.tmp 10)⟩,
  .op ⟨some 89, none, .ld 1 false (.tmp 88)⟩,
  .op ⟨some 90, none, .bin .eql (.tmp 89) (.const (.int .i64 1))⟩]
def r4_22 : List J := [
  .op ⟨some 92, none, .ld 3 true (.tmp 3)⟩,
  .op ⟨some 93, none, .fa 0 (.tmp 10)⟩,
  .op ⟨some 94, none, .ld 1 false (.tmp 93)⟩,
  .op ⟨some 95, none, .fa 2 (.tmp 10)⟩,
  .op ⟨some 96, none, .ld 1 false (.tmp 95)⟩,
  .op ⟨some 97, none, .fa 1 (.tmp 10)⟩,
  .op ⟨some 98, none, .ld 1 false (.tmp 97)⟩,
  .op ⟨some 99, none, .call 11 [(.tmp 92), (.tmp 94), (.tmp 96), (.tmp 98)]⟩,
  .op ⟨some 91, none, .mv (.tmp 99)⟩,
  .op ⟨some 100, none, .ext (.tmp 91) 0⟩,
  .op ⟨some 101, none, .ext (.tmp 91) 1⟩,
  .op ⟨none, none, .st 3 (.tmp 3) (.tmp 100)⟩,
  .op ⟨some 4, none, .mv (.tmp 101)⟩]
def r4_23 : List J := [
  .op ⟨some 102, none, .mv (.tmp 6)⟩,
  .op ⟨some 103, none, .fa 0 (.tmp 10)⟩,
  .op ⟨some 104, none, .ld 1 false (.tmp 103)⟩,
  .op ⟨some 105, none, .fa 2 (.tmp 10)⟩,
  .op ⟨some 106, none, .ld 1 false (.tmp 105)⟩,
  .op ⟨some 107, none, .bin .sub (.tmp 104) (.tmp 106)⟩,
  .op ⟨some 108, none, .fa 1 (.tmp 10)⟩,
  .op ⟨some 109, none, .ld 1 false (.tmp 108)⟩,
  .op ⟨some 110, none, .call 10 [(.tmp 107), (.tmp 109)]⟩,
  .op ⟨some 111, none, .bin .add (.tmp 102) (.tmp 110)⟩,
  .op ⟨some 6, none, .mv (.tmp 111)⟩]
def r4_24 : List J := [
  .op ⟨some 113, none, .ld 3 true (.tmp 3)⟩,
  .op ⟨some 114, none, .fa 0 (.tmp 10)⟩,
  .op ⟨some 115, none, .ld 1 false (.tmp 114)⟩,
  .op ⟨some 116, none, .fa 1 (.tmp 10)⟩,
  .op ⟨some 117, none, .ld 1 false (.tmp 116)⟩,
  .op ⟨some 118, none, .call 12 [(.tmp 113), (.tmp 115), (.tmp 117)]⟩,
  .op ⟨some 112, none, .mv (.tmp 118)⟩,
  .op ⟨some 119, none, .ext (.tmp 112) 0⟩,
  .op ⟨some 120, none, .ext (.tmp 112) 1⟩,
  .op ⟨none, none, .st 3 (.tmp 3) (.tmp 119)⟩,
  .op ⟨some 4, none, .mv (.tmp 120)⟩]
def r4_25 : List J := [
  .op ⟨some 121, none, .mv (.tmp 6)⟩,
  .op ⟨some 122, none, .fa 0 (.tmp 10)⟩,
  .op ⟨some 123, none, .ld 1 false (.tmp 122)⟩,
  .op ⟨some 124, none, .fa 1 (.tmp 10)⟩,
  .op ⟨some 125, none, .ld 1 false (.tmp 124)⟩,
  .op ⟨some 126, none, .call 10 [(.tmp 123), (.tmp 125)]⟩,
  .op ⟨some 127, none, .bin .add (.tmp 121) (.tmp 126)⟩,
  .op ⟨some 6, none, .mv (.tmp 127)⟩]
def r4_26 : List J := [
  .op ⟨some 128, none, .mv (.tmp 4)⟩,
  .op ⟨some 129, none, .bin .neq (.tmp 128) (.const (.int .i64 0))⟩]
def r4_27 : List J := [
  .op ⟨some 2, none, .mv (.const (.bool false))⟩]
def k4_3 : IC := (.seq (.ops r4_18) (.seq (.seq (.ops r4_19) (.cond (.tmp 80) (.exit 3) .skip)) (.seq (.ops r4_20) (.seq (.seq (.ops r4_21) (.cond (.tmp 90) (.seq (.ops r4_22) (.ops r4_23)) (.seq (.ops r4_24) (.ops r4_25)))) (.seq (.ops r4_26) (.cond (.tmp 129) (.seq (.ops r4_27) .ret) .skip))))))
def r4_17 : List J := [
  .op ⟨some 56, none, .mv (.tmp 9)⟩,
  .op ⟨some 57, none, .bin .add (.tmp 56) (.const (.int .i64 1))⟩,
  .op ⟨some 9, none, .mv (.tmp 57)⟩]
def l4_2 : IC := (.seq (.seq (.ops r4_16) (.cond (.tmp 55) .skip (.exit 2))) (.seq (.block 3 k4_3) (.ops r4_17)))
def k4_2 : IC := (.loop l4_2)
def r4_28 : List J := [
  .op ⟨some 131, none, .ld 3 true (.tmp 3)⟩,
  .op ⟨some 132, none, .call 13 [(.tmp 131), (.const (.int .i64 1))]⟩,
  .op ⟨some 130, none, .mv (.tmp 132)⟩,
  .op ⟨some 133, none, .ext (.tmp 130) 0⟩,
  .op ⟨some 134, none, .ext (.tmp 130) 1⟩,
  .op ⟨some 11, none, .mv (.tmp 133)⟩,
  .op ⟨some 12, none, .mv (.tmp 134)⟩]
def r4_29 : List J := [
  .op ⟨some 136, none, .ld 3 true (.tmp 3)⟩,
  .op ⟨some 137, none, .call 13 [(.tmp 136), (.const (.int .i64 2))]⟩,
  .op ⟨some 135, none, .mv (.tmp 137)⟩,
  .op ⟨some 138, none, .ext (.tmp 135) 0⟩,
  .op ⟨some 139, none, .ext (.tmp 135) 1⟩,
  .op ⟨some 13, none, .mv (.tmp 138)⟩,
  .op ⟨some 14, none, .mv (.tmp 139)⟩]
def r4_30 : List J := [
  .op ⟨some 141, none, .ld 3 true (.tmp 3)⟩,
  .op ⟨some 142, none, .call 13 [(.tmp 141), (.const (.int .i64 0))]⟩,
  .op ⟨some 140, none, .mv (.tmp 142)⟩,
  .op ⟨some 143, none, .ext (.tmp 140) 0⟩,
  .op ⟨some 144, none, .ext (.tmp 140) 1⟩,
  .op ⟨some 15, none, .mv (.tmp 143)⟩,
  .op ⟨some 16, none, .mv (.tmp 144)⟩]
def r4_31 : List J := [
  .op ⟨some 145, none, .mv (.tmp 12)⟩,
  .op ⟨some 146, none, .bin .neq (.tmp 145) (.const (.int .i64 0))⟩,
  .op ⟨some 147, none, .mv (.tmp 146)⟩,
  .lg true 147 150 none [.op ⟨some 148, (some (147, false)), .mv (.tmp 14)⟩, .op ⟨some 149, (some (147, false)), .bin .neq (.tmp 148) (.const (.int .i64 0))⟩] (.tmp 149),
  .op ⟨some 151, none, .mv (.tmp 150)⟩,
  .lg true 151 154 none [.op ⟨some 152, (some (151, false)), .mv (.tmp 16)⟩, .op ⟨some 153, (some (151, false)), .bin .neq (.tmp 152) (.const (.int .i64 0))⟩] (.tmp 153),
  .op ⟨some 155, none, .mv (.tmp 154)⟩,
  .lg true 155 159 none [.op ⟨some 156, (some (155, false)), .mv (.tmp 11)⟩, .op ⟨some 157, (some (155, false)), .mv (.tmp 5)⟩, .op ⟨some 158, (some (155, false)), .bin .neq (.tmp 156) (.tmp 157)⟩] (.tmp 158),
  .op ⟨some 160, none, .mv (.tmp 159)⟩,
  .lg true 160 164 none [.op ⟨some 161, (some (160, false)), .mv (.tmp 13)⟩, .op ⟨some 162, (some (160, false)), .mv (.tmp 6)⟩, .op ⟨some 163, (some (160, false)), .bin .neq (.tmp 161) (.tmp 162)⟩] (.tmp 163),
  .op ⟨some 165, none, .mv (.tmp 164)⟩,
  .lg true 165 171 none [.op ⟨some 166, (some (165, false)), .mv (.tmp 15)⟩, .op ⟨some 167, (some (165, false)), .mv (.tmp 5)⟩, .op ⟨some 168, (some (165, false)), .mv (.tmp 6)⟩, .op ⟨some 169, (some (165, false)), .bin .add (.tmp 167) (.tmp 168)⟩, .op ⟨some 170, (some (165, false)), .bin .neq (.tmp 166) (.tmp 169)⟩] (.tmp 170),
  .op ⟨some 172, none, .mv (.tmp 171)⟩,
  .lg true 172 176 none [.op ⟨some 173, (some (172, false)), .ld 3 true (.tmp 3)⟩, .op ⟨some 174, (some (172, false)), .call 6 [(.tmp 173)]⟩, .op ⟨some 175, (some (172, false)), .un .not (.tmp 174)⟩] (.tmp 175)]
def r4_32 : List J := [
  .op ⟨some 2, none, .mv (.const (.bool false))⟩]
def k4_1 : IC := (.seq (.ops r4_10) (.seq (.ops r4_11) (.seq (.ops r4_12) (.seq (.seq (.ops r4_13) (.cond (.tmp 52) (.seq (.ops r4_14) .ret) .skip)) (.seq (.seq (.ops r4_15) (.block 2 k4_2)) (.seq (.ops r4_28) (.seq (.ops r4_29) (.seq (.ops r4_30) (.seq (.ops r4_31) (.cond (.tmp 176) (.seq (.ops r4_32) .ret) .skip))))))))))
def r4_9 : List J := [
  .op ⟨some 24, none, .mv (.tmp 7)⟩,
  .op ⟨some 25, none, .bin .add (.tmp 24) (.const (.int .i64 1))⟩,
  .op ⟨some 7, none, .mv (.tmp 25)⟩]
def l4_1 : IC := (.seq (.seq (.ops r4_8) (.cond (.tmp 23) .skip (.exit 0))) (.seq (.block 1 k4_1) (.ops r4_9)))
def k4_0 : IC := (.loop l4_1)
def r4_33 : List J := [
  .op ⟨some 177, none, .ld 3 true (.tmp 3)⟩,
  .op ⟨some 178, none, .call 6 [(.tmp 177)]⟩,
  .op ⟨some 2, none, .mv (.tmp 178)⟩]
def d4 : FnD := ⟨179, [.tmp 2], (.seq (.ops r4_0) (.seq (.seq (.ops r4_1) (.cond (.tmp 19) (.seq (.ops r4_2) .ret) .skip)) (.seq (.ops r4_3) (.seq (.ops r4_4) (.seq (.ops r4_5) (.seq (.ops r4_6) (.seq (.seq (.ops r4_7) (.block 0 k4_0)) (.seq (.ops r4_33) .ret))))))))⟩
theorem ok4 : okF Tryd.prog 4 d4 = true := by kernel_rfl
/- farebox/fareboxlaw22.LedgerExact -/
def r5_0 : List J := [
  .op ⟨some 2, none, .bx 27 (.tmp 0)⟩,
  .op ⟨some 4, none, .mv (.const (.bool false))⟩]
def r5_1 : List J := [
  .op ⟨some 11, none, .bd [.ints .i64 3 (List.replicate 3 0)] []⟩,
  .op ⟨some 12, none, .call 6 [(.tmp 11)]⟩,
  .op ⟨some 13, none, .un .not (.tmp 12)⟩]
def r5_2 : List J := [
  .op ⟨some 4, none, .mv (.const (.bool false))⟩]
def r5_3 : List J := [
  .op ⟨some 5, none, .mv (.const (.int .i64 0))⟩]
def r5_4 : List J := [
  .op ⟨some 14, none, .mv (.tmp 5)⟩,
  .op ⟨some 15, none, .mv (.tmp 1)⟩,
  .op ⟨some 16, none, .len (.tmp 15)⟩,
  .op ⟨some 17, none, .bin .lss (.tmp 14) (.tmp 16)⟩]
def r5_6 : List J := [
  .op ⟨some 20, none, .mv (.tmp 1)⟩,
  .op ⟨some 21, none, .mv (.tmp 5)⟩,
  .op ⟨some 22, none, .ias 7 (.tmp 20) (.tmp 21)⟩,
  .op ⟨some 23, none, .ld 7 true (.tmp 22)⟩,
  .op ⟨some 6, none, .al 23 [.one (.int .i64 0), .one (.int .i64 0), .one (.int .i64 0), .one (.int .i64 0), .one (.int .i64 0), .one (.int .i64 0), .one (.int .i64 0)]⟩,
  .op ⟨none, none, .st 7 (.tmp 6) (.tmp 23)⟩]
def r5_7 : List J := [
  .op ⟨some 25, none, .ld 3 true (.tmp 2)⟩,
  .op ⟨some 26, none, .ld 7 true (.tmp 6)⟩,
  .op ⟨some 27, none, .call 7 [(.tmp 25), (.tmp 26)]⟩,
  .op ⟨some 24, none, .mv (.tmp 27)⟩,
  .op ⟨some 28, none, .ext (.tmp 24) 0⟩,
  .op ⟨some 29, none, .ext (.tmp 24) 1⟩,
  .op ⟨some 7, none, .al 27 [.ints .i64 3 (List.replicate 3 0)]⟩,
  .op ⟨none, none, .st 3 (.tmp 7) (.tmp 28)⟩,
  .op ⟨some 8, none, .mv (.tmp 29)⟩]
def r5_8 : List J := [
  .op ⟨some 31, none, .ld 3 true (.tmp 2)⟩,
  .op ⟨some 32, none, .ld 7 true (.tmp 6)⟩,
  .op ⟨some 33, none, .call 14 [(.tmp 31), (.tmp 32)]⟩,
  .op ⟨some 30, none, .mv (.tmp 33)⟩,
  .op ⟨some 34, none, .ext (.tmp 30) 0⟩,
  .op ⟨some 35, none, .ext (.tmp 30) 1⟩,
  .op ⟨some 9, none, .al 27 [.ints .i64 3 (List.replicate 3 0)]⟩,
  .op ⟨none, none, .st 3 (.tmp 9) (.tmp 34)⟩,
  .op ⟨some 10, none, .mv (.tmp 35)⟩]
def r5_9 : List J := [
  .op ⟨some 36, none, .ld 3 true (.tmp 7)⟩,
  .op ⟨some 37, none, .ld 3 true (.tmp 9)⟩,
  .op ⟨some 38, none, .eqa true [(.i .i64, 3)] (.tmp 36) (.tmp 37)⟩,
  .op ⟨some 39, none, .mv (.tmp 38)⟩,
  .lg true 39 43 none [.op ⟨some 40, (some (39, false)), .mv (.tmp 8)⟩, .op ⟨some 41, (some (39, false)), .mv (.tmp 10)⟩, .op ⟨some 42, (some (39, false)), .bin .neq (.tmp 40) (.tmp 41)⟩] (.tmp 42),
  .op ⟨some 44, none, .mv (.tmp 43)⟩,
  .lg true 44 49 none [.op ⟨some 45, (some (44, false)), .ld 3 true (.tmp 9)⟩, .op ⟨some 46, (some (44, false)), .ld 7 true (.tmp 6)⟩, .op ⟨some 47, (some (44, false)), .call 15 [(.tmp 45), (.tmp 46)]⟩, .op ⟨some 48, (some (44, false)), .un .not (.tmp 47)⟩] (.tmp 48)]
def r5_10 : List J := [
  .op ⟨some 4, none, .mv (.const (.bool false))⟩]
def r5_11 : List J := [
  .op ⟨some 50, none, .ld 3 true (.tmp 9)⟩,
  .op ⟨none, none, .st 3 (.tmp 2) (.tmp 50)⟩]
def k5_1 : IC := (.seq (.ops r5_6) (.seq (.ops r5_7) (.seq (.ops r5_8) (.seq (.seq (.ops r5_9) (.cond (.tmp 49) (.seq (.ops r5_10) .ret) .skip)) (.ops r5_11)))))
def r5_5 : List J := [
  .op ⟨some 18, none, .mv (.tmp 5)⟩,
  .op ⟨some 19, none, .bin .add (.tmp 18) (.const (.int .i64 1))⟩,
  .op ⟨some 5, none, .mv (.tmp 19)⟩]
def l5_1 : IC := (.seq (.seq (.ops r5_4) (.cond (.tmp 17) .skip (.exit 0))) (.seq (.block 1 k5_1) (.ops r5_5)))
def k5_0 : IC := (.loop l5_1)
def r5_12 : List J := [
  .op ⟨some 4, none, .mv (.const (.bool true))⟩]
def d5 : FnD := ⟨51, [.tmp 4], (.seq (.ops r5_0) (.seq (.seq (.ops r5_1) (.cond (.tmp 13) (.seq (.ops r5_2) .ret) .skip)) (.seq (.seq (.ops r5_3) (.block 0 k5_0)) (.seq (.ops r5_12) .ret))))⟩
theorem ok5 : okF Tryd.prog 5 d5 = true := by kernel_rfl
/- farebox/fareboxref22.isAccount -/
def r27_0 : List J := [
  .op ⟨some 2, none, .mv (.const (.bool false))⟩]
def r27_1 : List J := [
  .op ⟨some 3, none, .mv (.tmp 0)⟩,
  .op ⟨some 4, none, .bin .geq (.tmp 3) (.const (.int .i64 0))⟩,
  .op ⟨some 5, none, .mv (.tmp 4)⟩,
  .lg false 5 8 none [.op ⟨some 6, (some (5, true)), .mv (.tmp 0)⟩, .op ⟨some 7, (some (5, true)), .bin .leq (.tmp 6) (.const (.int .i64 2))⟩] (.tmp 7),
  .op ⟨some 2, none, .mv (.tmp 8)⟩]
def d27 : FnD := ⟨9, [.tmp 2], (.seq (.ops r27_0) (.seq (.ops r27_1) .ret))⟩
theorem ok27 : okF Tryd.prog 27 d27 = true := by kernel_rfl
/- farebox/fareboxref22.plus -/
def r28_0 : List J := [
  .op ⟨some 4, none, .mv (.const (.int .i64 0))⟩,
  .op ⟨some 5, none, .mv (.const (.bool false))⟩]
def r28_1 : List J := [
  .op ⟨some 6, none, .mv (.tmp 0)⟩,
  .op ⟨some 7, none, .bin .gtr (.tmp 6) (.const (.int .i64 0))⟩,
  .op ⟨some 8, none, .mv (.tmp 7)⟩,
  .lg false 8 13 none [.op ⟨some 9, (some (8, true)), .mv (.tmp 1)⟩, .op ⟨some 10, (some (8, true)), .mv (.tmp 0)⟩, .op ⟨some 11, (some (8, true)), .bin .sub (.const (.int .i64 9223372036854775807)) (.tmp 10)⟩, .op ⟨some 12, (some (8, true)), .bin .gtr (.tmp 9) (.tmp 11)⟩] (.tmp 12)]
def r28_2 : List J := [
  .op ⟨some 4, none, .mv (.const (.int .i64 0))⟩,
  .op ⟨some 5, none, .mv (.const (.bool false))⟩]
def r28_3 : List J := [
  .op ⟨some 14, none, .mv (.tmp 0)⟩,
  .op ⟨some 15, none, .mv (.tmp 1)⟩,
  .op ⟨some 16, none, .bin .add (.tmp 14) (.tmp 15)⟩,
  .op ⟨some 4, none, .mv (.tmp 16)⟩,
  .op ⟨some 5, none, .mv (.const (.bool true))⟩]
def d28 : FnD := ⟨17, [.tmp 4, .tmp 5], (.seq (.ops r28_0) (.seq (.seq (.ops r28_1) (.cond (.tmp 13) (.seq (.ops r28_2) .ret) .skip)) (.seq (.ops r28_3) .ret)))⟩
theorem ok28 : okF Tryd.prog 28 d28 = true := by kernel_rfl
/- farebox/fareboxref22.minus -/
def r29_0 : List J := [
  .op ⟨some 4, none, .mv (.const (.int .i64 0))⟩,
  .op ⟨some 5, none, .mv (.const (.bool false))⟩]
def r29_1 : List J := [
  .op ⟨some 6, none, .mv (.tmp 0)⟩,
  .op ⟨some 7, none, .bin .lss (.tmp 6) (.const (.int .i64 0))⟩,
  .op ⟨some 8, none, .mv (.tmp 7)⟩,
  .lg false 8 13 none [.op ⟨some 9, (some (8, true)), .mv (.tmp 1)⟩, .op ⟨some 10, (some (8, true)), .mv (.tmp 0)⟩, .op ⟨some 11, (some (8, true)), .bin .sub (.tmp 10) (.const (.int .i64 (-9223372036854775808)))⟩, .op ⟨some 12, (some (8, true)), .bin .gtr (.tmp 9) (.tmp 11)⟩] (.tmp 12)]
def r29_2 : List J := [
  .op ⟨some 4, none, .mv (.const (.int .i64 0))⟩,
  .op ⟨some 5, none, .mv (.const (.bool false))⟩]
def r29_3 : List J := [
  .op ⟨some 14, none, .mv (.tmp 0)⟩,
  .op ⟨some 15, none, .mv (.tmp 1)⟩,
  .op ⟨some 16, none, .bin .sub (.tmp 14) (.tmp 15)⟩,
  .op ⟨some 4, none, .mv (.tmp 16)⟩,
  .op ⟨some 5, none, .mv (.const (.bool true))⟩]
def d29 : FnD := ⟨17, [.tmp 4, .tmp 5], (.seq (.ops r29_0) (.seq (.seq (.ops r29_1) (.cond (.tmp 13) (.seq (.ops r29_2) .ret) .skip)) (.seq (.ops r29_3) .ret)))⟩
theorem ok29 : okF Tryd.prog 29 d29 = true := by kernel_rfl
/- farebox/fareboxref22.fits -/
def r30_0 : List J := [
  .op ⟨some 2, none, .mv (.const (.bool false))⟩]
def r30_1 : List J := [
  .op ⟨some 3, none, .mv (.tmp 0)⟩,
  .op ⟨some 4, none, .bin .neq (.tmp 3) (.const (.int .i64 (-9223372036854775808)))⟩,
  .op ⟨some 2, none, .mv (.tmp 4)⟩]
def d30 : FnD := ⟨5, [.tmp 2], (.seq (.ops r30_0) (.seq (.ops r30_1) .ret))⟩
theorem ok30 : okF Tryd.prog 30 d30 = true := by kernel_rfl
/- farebox/fareboxref22.wrong -/
def r31_0 : List J := [
  .op ⟨some 4, none, .mv (.const (.bool false))⟩]
def r31_1 : List J := [
  .op ⟨some 5, none, .mv (.tmp 0)⟩,
  .op ⟨some 6, none, .bin .eql (.tmp 5) (.const (.int .i64 0))⟩]
def r31_2 : List J := [
  .op ⟨some 7, none, .mv (.tmp 1)⟩,
  .op ⟨some 8, none, .bin .lss (.tmp 7) (.const (.int .i64 0))⟩,
  .op ⟨some 4, none, .mv (.tmp 8)⟩]
def r31_3 : List J := [
  .op ⟨some 9, none, .mv (.tmp 1)⟩,
  .op ⟨some 10, none, .bin .gtr (.tmp 9) (.const (.int .i64 0))⟩,
  .op ⟨some 4, none, .mv (.tmp 10)⟩]
def d31 : FnD := ⟨11, [.tmp 4], (.seq (.ops r31_0) (.seq (.seq (.ops r31_1) (.cond (.tmp 6) (.seq (.ops r31_2) .ret) .skip)) (.seq (.ops r31_3) .ret)))⟩
theorem ok31 : okF Tryd.prog 31 d31 = true := by kernel_rfl
/- farebox/fareboxref22.may -/
def r32_0 : List J := [
  .op ⟨some 4, none, .mv (.const (.bool false))⟩]
def r32_1 : List J := [
  .op ⟨some 5, none, .mv (.tmp 0)⟩,
  .op ⟨some 6, none, .bin .geq (.tmp 5) (.const (.int .i64 1))⟩,
  .op ⟨some 7, none, .mv (.tmp 6)⟩,
  .lg false 7 10 none [.op ⟨some 8, (some (7, true)), .mv (.tmp 0)⟩, .op ⟨some 9, (some (7, true)), .bin .leq (.tmp 8) (.const (.int .i64 4096))⟩] (.tmp 9),
  .op ⟨some 11, none, .mv (.tmp 10)⟩,
  .lg false 11 14 none [.op ⟨some 12, (some (11, true)), .mv (.tmp 1)⟩, .op ⟨some 13, (some (11, true)), .bin .geq (.tmp 12) (.const (.int .i64 0))⟩] (.tmp 13),
  .op ⟨some 15, none, .mv (.tmp 14)⟩,
  .lg false 15 18 none [.op ⟨some 16, (some (15, true)), .mv (.tmp 1)⟩, .op ⟨some 17, (some (15, true)), .bin .leq (.tmp 16) (.const (.int .i64 1000000000))⟩] (.tmp 17),
  .op ⟨some 4, none, .mv (.tmp 18)⟩]
def d32 : FnD := ⟨19, [.tmp 4], (.seq (.ops r32_0) (.seq (.ops r32_1) .ret))⟩
theorem ok32 : okF Tryd.prog 32 d32 = true := by kernel_rfl
/- farebox/fareboxref22.Post -/
def r20_0 : List J := [
  .op ⟨some 4, none, .bx 27 (.tmp 0)⟩,
  .op ⟨some 8, none, .al 27 [.ints .i64 3 (List.replicate 3 0)]⟩,
  .op ⟨some 9, none, .mv (.const (.int .i64 0))⟩]
def r20_1 : List J := [
  .op ⟨some 14, none, .mv (.tmp 1)⟩,
  .op ⟨some 15, none, .call 27 [(.tmp 14)]⟩,
  .op ⟨some 16, none, .un .not (.tmp 15)⟩,
  .op ⟨some 17, none, .mv (.tmp 16)⟩,
  .lg true 17 21 none [.op ⟨some 18, (some (17, false)), .mv (.tmp 2)⟩, .op ⟨some 19, (some (17, false)), .call 27 [(.tmp 18)]⟩, .op ⟨some 20, (some (17, false)), .un .not (.tmp 19)⟩] (.tmp 20),
  .op ⟨some 22, none, .mv (.tmp 21)⟩,
  .lg true 22 26 none [.op ⟨some 23, (some (22, false)), .mv (.tmp 1)⟩, .op ⟨some 24, (some (22, false)), .mv (.tmp 2)⟩, .op ⟨some 25, (some (22, false)), .bin .eql (.tmp 23) (.tmp 24)⟩] (.tmp 25),
  .op ⟨some 27, none, .mv (.tmp 26)⟩,
  .lg true 27 30 none [.op ⟨some 28, (some (27, false)), .mv (.tmp 3)⟩, .op ⟨some 29, (some (27, false)), .bin .lss (.tmp 28) (.const (.int .i64 0))⟩] (.tmp 29)]
def r20_2 : List J := [
  .op ⟨some 31, none, .ld 3 true (.tmp 4)⟩,
  .op ⟨none, none, .st 3 (.tmp 8) (.tmp 31)⟩,
  .op ⟨some 9, none, .mv (.const (.int .i64 2))⟩]
def r20_3 : List J := [
  .op ⟨some 33, none, .mv (.tmp 1)⟩,
  .op ⟨some 34, none, .fa 0 (.tmp 4)⟩,
  .op ⟨some 35, none, .ia 3 1 (.tmp 34) (.tmp 33)⟩,
  .op ⟨some 36, none, .ld 1 false (.tmp 35)⟩,
  .op ⟨some 37, none, .mv (.tmp 3)⟩,
  .op ⟨some 38, none, .call 28 [(.tmp 36), (.tmp 37)]⟩,
  .op ⟨some 32, none, .mv (.tmp 38)⟩,
  .op ⟨some 39, none, .ext (.tmp 32) 0⟩,
  .op ⟨some 40, none, .ext (.tmp 32) 1⟩,
  .op ⟨some 10, none, .mv (.tmp 39)⟩,
  .op ⟨some 11, none, .mv (.tmp 40)⟩]
def r20_4 : List J := [
  .op ⟨some 42, none, .mv (.tmp 2)⟩,
  .op ⟨some 43, none, .fa 0 (.tmp 4)⟩,
  .op ⟨some 44, none, .ia 3 1 (.tmp 43) (.tmp 42)⟩,
  .op ⟨some 45, none, .ld 1 false (.tmp 44)⟩,
  .op ⟨some 46, none, .mv (.tmp 3)⟩,
  .op ⟨some 47, none, .call 29 [(.tmp 45), (.tmp 46)]⟩,
  .op ⟨some 41, none, .mv (.tmp 47)⟩,
  .op ⟨some 48, none, .ext (.tmp 41) 0⟩,
  .op ⟨some 49, none, .ext (.tmp 41) 1⟩,
  .op ⟨some 12, none, .mv (.tmp 48)⟩,
  .op ⟨some 13, none, .mv (.tmp 49)⟩]
def r20_5 : List J := [
  .op ⟨some 50, none, .mv (.tmp 11)⟩,
  .op ⟨some 51, none, .un .not (.tmp 50)⟩,
  .op ⟨some 52, none, .mv (.tmp 51)⟩,
  .lg true 52 55 none [.op ⟨some 53, (some (52, false)), .mv (.tmp 13)⟩, .op ⟨some 54, (some (52, false)), .un .not (.tmp 53)⟩] (.tmp 54),
  .op ⟨some 56, none, .mv (.tmp 55)⟩,
  .lg true 56 60 none [.op ⟨some 57, (some (56, false)), .mv (.tmp 10)⟩, .op ⟨some 58, (some (56, false)), .call 30 [(.tmp 57)]⟩, .op ⟨some 59, (some (56, false)), .un .not (.tmp 58)⟩] (.tmp 59),
  .op ⟨some 61, none, .mv (.tmp 60)⟩,
  .lg true 61 65 none [.op ⟨some 62, (some (61, false)), .mv (.tmp 12)⟩, .op ⟨some 63, (some (61, false)), .call 30 [(.tmp 62)]⟩, .op ⟨some 64, (some (61, false)), .un .not (.tmp 63)⟩] (.tmp 64)]
def r20_6 : List J := [
  .op ⟨some 66, none, .ld 3 true (.tmp 4)⟩,
  .op ⟨none, none, .st 3 (.tmp 8) (.tmp 66)⟩,
  .op ⟨some 9, none, .mv (.const (.int .i64 3))⟩]
def r20_7 : List J := [
  .op ⟨some 67, none, .mv (.tmp 1)⟩,
  .op ⟨some 68, none, .mv (.tmp 10)⟩,
  .op ⟨some 69, none, .call 31 [(.tmp 67), (.tmp 68)]⟩,
  .op ⟨some 70, none, .mv (.tmp 69)⟩,
  .lg true 70 74 none [.op ⟨some 71, (some (70, false)), .mv (.tmp 2)⟩, .op ⟨some 72, (some (70, false)), .mv (.tmp 12)⟩, .op ⟨some 73, (some (70, false)), .call 31 [(.tmp 71), (.tmp 72)]⟩] (.tmp 73)]
def r20_8 : List J := [
  .op ⟨some 75, none, .ld 3 true (.tmp 4)⟩,
  .op ⟨none, none, .st 3 (.tmp 8) (.tmp 75)⟩,
  .op ⟨some 9, none, .mv (.const (.int .i64 220))⟩]
def r20_9 : List J := [
  .op ⟨some 76, none, .mv (.tmp 1)⟩,
  .op ⟨some 77, none, .mv (.tmp 10)⟩,
  .op ⟨some 78, none, .fa 0 (.tmp 4)⟩,
  .op ⟨some 79, none, .ia 3 1 (.tmp 78) (.tmp 76)⟩,
  .op ⟨none, none, .st 1 (.tmp 79) (.tmp 77)⟩]
def r20_10 : List J := [
  .op ⟨some 80, none, .mv (.tmp 2)⟩,
  .op ⟨some 81, none, .mv (.tmp 12)⟩,
  .op ⟨some 82, none, .fa 0 (.tmp 4)⟩,
  .op ⟨some 83, none, .ia 3 1 (.tmp 82) (.tmp 80)⟩,
  .op ⟨none, none, .st 1 (.tmp 83) (.tmp 81)⟩]
def r20_11 : List J := [
  .op ⟨some 84, none, .ld 3 true (.tmp 4)⟩,
  .op ⟨none, none, .st 3 (.tmp 8) (.tmp 84)⟩,
  .op ⟨some 9, none, .mv (.const (.int .i64 0))⟩]
def d20 : FnD := ⟨85, [.cell 8 3 true, .tmp 9], (.seq (.ops r20_0) (.seq (.seq (.ops r20_1) (.cond (.tmp 30) (.seq (.ops r20_2) .ret) .skip)) (.seq (.ops r20_3) (.seq (.ops r20_4) (.seq (.seq (.ops r20_5) (.cond (.tmp 65) (.seq (.ops r20_6) .ret) .skip)) (.seq (.seq (.ops r20_7) (.cond (.tmp 74) (.seq (.ops r20_8) .ret) .skip)) (.seq (.ops r20_9) (.seq (.ops r20_10) (.seq (.ops r20_11) .ret)))))))))⟩
theorem ok20 : okF Tryd.prog 20 d20 = true := by kernel_rfl
/- farebox/fareboxref22.Sell -/
def r21_0 : List J := [
  .op ⟨some 3, none, .bx 27 (.tmp 0)⟩,
  .op ⟨some 6, none, .al 27 [.ints .i64 3 (List.replicate 3 0)]⟩,
  .op ⟨some 7, none, .mv (.const (.int .i64 0))⟩]
def r21_1 : List J := [
  .op ⟨some 8, none, .mv (.tmp 1)⟩,
  .op ⟨some 9, none, .mv (.tmp 2)⟩,
  .op ⟨some 10, none, .call 32 [(.tmp 8), (.tmp 9)]⟩,
  .op ⟨some 11, none, .un .not (.tmp 10)⟩]
def r21_2 : List J := [
  .op ⟨some 12, none, .ld 3 true (.tmp 3)⟩,
  .op ⟨none, none, .st 3 (.tmp 6) (.tmp 12)⟩,
  .op ⟨some 7, none, .mv (.const (.int .i64 2))⟩]
def r21_3 : List J := [
  .op ⟨some 13, none, .ld 3 true (.tmp 3)⟩,
  .op ⟨some 14, none, .mv (.tmp 1)⟩,
  .op ⟨some 15, none, .mv (.tmp 2)⟩,
  .op ⟨some 16, none, .bin .mul (.tmp 14) (.tmp 15)⟩,
  .op ⟨some 17, none, .call 20 [(.tmp 13), (.const (.int .i64 0)), (.const (.int .i64 1)), (.tmp 16)]⟩,
  .op ⟨some 18, none, .ext (.tmp 17) 0⟩,
  .op ⟨some 19, none, .ext (.tmp 17) 1⟩,
  .op ⟨none, none, .st 3 (.tmp 6) (.tmp 18)⟩,
  .op ⟨some 7, none, .mv (.tmp 19)⟩]
def d21 : FnD := ⟨20, [.cell 6 3 true, .tmp 7], (.seq (.ops r21_0) (.seq (.seq (.ops r21_1) (.cond (.tmp 11) (.seq (.ops r21_2) .ret) .skip)) (.seq (.ops r21_3) .ret)))⟩
theorem ok21 : okF Tryd.prog 21 d21 = true := by kernel_rfl
/- farebox/fareboxref22.Refund -/
def r22_0 : List J := [
  .op ⟨some 4, none, .bx 27 (.tmp 0)⟩,
  .op ⟨some 8, none, .al 27 [.ints .i64 3 (List.replicate 3 0)]⟩,
  .op ⟨some 9, none, .mv (.const (.int .i64 0))⟩]
def r22_1 : List J := [
  .op ⟨some 14, none, .mv (.tmp 1)⟩,
  .op ⟨some 15, none, .mv (.tmp 3)⟩,
  .op ⟨some 16, none, .call 32 [(.tmp 14), (.tmp 15)]⟩,
  .op ⟨some 17, none, .un .not (.tmp 16)⟩,
  .op ⟨some 18, none, .mv (.tmp 17)⟩,
  .lg true 18 21 none [.op ⟨some 19, (some (18, false)), .mv (.tmp 2)⟩, .op ⟨some 20, (some (18, false)), .bin .lss (.tmp 19) (.const (.int .i64 0))⟩] (.tmp 20),
  .op ⟨some 22, none, .mv (.tmp 21)⟩,
  .lg true 22 26 none [.op ⟨some 23, (some (22, false)), .mv (.tmp 2)⟩, .op ⟨some 24, (some (22, false)), .mv (.tmp 1)⟩, .op ⟨some 25, (some (22, false)), .bin .gtr (.tmp 23) (.tmp 24)⟩] (.tmp 25)]
def r22_2 : List J := [
  .op ⟨some 27, none, .ld 3 true (.tmp 4)⟩,
  .op ⟨none, none, .st 3 (.tmp 8) (.tmp 27)⟩,
  .op ⟨some 9, none, .mv (.const (.int .i64 2))⟩]
def r22_3 : List J := [
  .op ⟨some 29, none, .ld 3 true (.tmp 4)⟩,
  .op ⟨some 30, none, .mv (.tmp 1)⟩,
  .op ⟨some 31, none, .mv (.tmp 2)⟩,
  .op ⟨some 32, none, .bin .sub (.tmp 30) (.tmp 31)⟩,
  .op ⟨some 33, none, .mv (.tmp 3)⟩,
  .op ⟨some 34, none, .bin .mul (.tmp 32) (.tmp 33)⟩,
  .op ⟨some 35, none, .call 20 [(.tmp 29), (.const (.int .i64 1)), (.const (.int .i64 2)), (.tmp 34)]⟩,
  .op ⟨some 28, none, .mv (.tmp 35)⟩,
  .op ⟨some 36, none, .ext (.tmp 28) 0⟩,
  .op ⟨some 37, none, .ext (.tmp 28) 1⟩,
  .op ⟨some 10, none, .al 27 [.ints .i64 3 (List.replicate 3 0)]⟩,
  .op ⟨none, none, .st 3 (.tmp 10) (.tmp 36)⟩,
  .op ⟨some 11, none, .mv (.tmp 37)⟩]
def r22_4 : List J := [
  .op ⟨some 38, none, .mv (.tmp 11)⟩,
  .op ⟨some 39, none, .bin .neq (.tmp 38) (.const (.int .i64 0))⟩]
def r22_5 : List J := [
  .op ⟨some 40, none, .ld 3 true (.tmp 4)⟩,
  .op ⟨some 41, none, .mv (.tmp 11)⟩,
  .op ⟨none, none, .st 3 (.tmp 8) (.tmp 40)⟩,
  .op ⟨some 9, none, .mv (.tmp 41)⟩]
def r22_6 : List J := [
  .op ⟨some 43, none, .ld 3 true (.tmp 10)⟩,
  .op ⟨some 44, none, .mv (.tmp 2)⟩,
  .op ⟨some 45, none, .mv (.tmp 3)⟩,
  .op ⟨some 46, none, .bin .mul (.tmp 44) (.tmp 45)⟩,
  .op ⟨some 47, none, .call 20 [(.tmp 43), (.const (.int .i64 1)), (.const (.int .i64 0)), (.tmp 46)]⟩,
  .op ⟨some 42, none, .mv (.tmp 47)⟩,
  .op ⟨some 48, none, .ext (.tmp 42) 0⟩,
  .op ⟨some 49, none, .ext (.tmp 42) 1⟩,
  .op ⟨some 12, none, .al 27 [.ints .i64 3 (List.replicate 3 0)]⟩,
  .op ⟨none, none, .st 3 (.tmp 12) (.tmp 48)⟩,
  .op ⟨some 13, none, .mv (.tmp 49)⟩]
def r22_7 : List J := [
  .op ⟨some 50, none, .mv (.tmp 13)⟩,
  .op ⟨some 51, none, .bin .neq (.tmp 50) (.const (.int .i64 0))⟩]
def r22_8 : List J := [
  .op ⟨some 52, none, .ld 3 true (.tmp 4)⟩,
  .op ⟨some 53, none, .mv (.tmp 13)⟩,
  .op ⟨none, none, .st 3 (.tmp 8) (.tmp 52)⟩,
  .op ⟨some 9, none, .mv (.tmp 53)⟩]
def r22_9 : List J := [
  .op ⟨some 54, none, .ld 3 true (.tmp 12)⟩,
  .op ⟨none, none, .st 3 (.tmp 8) (.tmp 54)⟩,
  .op ⟨some 9, none, .mv (.const (.int .i64 0))⟩]
def d22 : FnD := ⟨55, [.cell 8 3 true, .tmp 9], (.seq (.ops r22_0) (.seq (.seq (.ops r22_1) (.cond (.tmp 26) (.seq (.ops r22_2) .ret) .skip)) (.seq (.ops r22_3) (.seq (.seq (.ops r22_4) (.cond (.tmp 39) (.seq (.ops r22_5) .ret) .skip)) (.seq (.ops r22_6) (.seq (.seq (.ops r22_7) (.cond (.tmp 51) (.seq (.ops r22_8) .ret) .skip)) (.seq (.ops r22_9) .ret)))))))⟩
theorem ok22 : okF Tryd.prog 22 d22 = true := by kernel_rfl
/- farebox/fareboxref22.Retire -/
def r23_0 : List J := [
  .op ⟨some 3, none, .bx 27 (.tmp 0)⟩,
  .op ⟨some 6, none, .al 27 [.ints .i64 3 (List.replicate 3 0)]⟩,
  .op ⟨some 7, none, .mv (.const (.int .i64 0))⟩]
def r23_1 : List J := [
  .op ⟨some 8, none, .mv (.tmp 1)⟩,
  .op ⟨some 9, none, .mv (.tmp 2)⟩,
  .op ⟨some 10, none, .call 32 [(.tmp 8), (.tmp 9)]⟩,
  .op ⟨some 11, none, .un .not (.tmp 10)⟩]
def r23_2 : List J := [
  .op ⟨some 12, none, .ld 3 true (.tmp 3)⟩,
  .op ⟨none, none, .st 3 (.tmp 6) (.tmp 12)⟩,
  .op ⟨some 7, none, .mv (.const (.int .i64 2))⟩]
def r23_3 : List J := [
  .op ⟨some 13, none, .ld 3 true (.tmp 3)⟩,
  .op ⟨some 14, none, .mv (.tmp 1)⟩,
  .op ⟨some 15, none, .mv (.tmp 2)⟩,
  .op ⟨some 16, none, .bin .mul (.tmp 14) (.tmp 15)⟩,
  .op ⟨some 17, none, .call 20 [(.tmp 13), (.const (.int .i64 1)), (.const (.int .i64 2)), (.tmp 16)]⟩,
  .op ⟨some 18, none, .ext (.tmp 17) 0⟩,
  .op ⟨some 19, none, .ext (.tmp 17) 1⟩,
  .op ⟨none, none, .st 3 (.tmp 6) (.tmp 18)⟩,
  .op ⟨some 7, none, .mv (.tmp 19)⟩]
def d23 : FnD := ⟨20, [.cell 6 3 true, .tmp 7], (.seq (.ops r23_0) (.seq (.seq (.ops r23_1) (.cond (.tmp 11) (.seq (.ops r23_2) .ret) .skip)) (.seq (.ops r23_3) .ret)))⟩
theorem ok23 : okF Tryd.prog 23 d23 = true := by kernel_rfl
/- farebox/fareboxref22.Balance -/
def r24_0 : List J := [
  .op ⟨some 2, none, .bx 27 (.tmp 0)⟩,
  .op ⟨some 4, none, .mv (.const (.int .i64 0))⟩,
  .op ⟨some 5, none, .mv (.const (.int .i64 0))⟩]
def r24_1 : List J := [
  .op ⟨some 7, none, .mv (.tmp 1)⟩,
  .op ⟨some 8, none, .call 27 [(.tmp 7)]⟩,
  .op ⟨some 9, none, .un .not (.tmp 8)⟩]
def r24_2 : List J := [
  .op ⟨some 4, none, .mv (.const (.int .i64 0))⟩,
  .op ⟨some 5, none, .mv (.const (.int .i64 2))⟩]
def r24_3 : List J := [
  .op ⟨some 10, none, .mv (.tmp 1)⟩,
  .op ⟨some 11, none, .fa 0 (.tmp 2)⟩,
  .op ⟨some 12, none, .ia 3 1 (.tmp 11) (.tmp 10)⟩,
  .op ⟨some 13, none, .ld 1 false (.tmp 12)⟩,
  .op ⟨some 6, none, .mv (.tmp 13)⟩]
def r24_4 : List J := [
  .op ⟨some 14, none, .mv (.tmp 6)⟩,
  .op ⟨some 15, none, .bin .eql (.tmp 14) (.const (.int .i64 (-9223372036854775808)))⟩]
def r24_5 : List J := [
  .op ⟨some 4, none, .mv (.const (.int .i64 0))⟩,
  .op ⟨some 5, none, .mv (.const (.int .i64 3))⟩]
def r24_6 : List J := [
  .op ⟨some 16, none, .mv (.tmp 1)⟩,
  .op ⟨some 17, none, .bin .eql (.tmp 16) (.const (.int .i64 0))⟩]
def r24_7 : List J := [
  .op ⟨some 18, none, .mv (.tmp 6)⟩,
  .op ⟨some 4, none, .mv (.tmp 18)⟩,
  .op ⟨some 5, none, .mv (.const (.int .i64 0))⟩]
def r24_8 : List J := [
  .op ⟨some 19, none, .mv (.tmp 6)⟩,
  .op ⟨some 20, none, .un .neg (.tmp 19)⟩,
  .op ⟨some 4, none, .mv (.tmp 20)⟩,
  .op ⟨some 5, none, .mv (.const (.int .i64 0))⟩]
def d24 : FnD := ⟨21, [.tmp 4, .tmp 5], (.seq (.ops r24_0) (.seq (.seq (.ops r24_1) (.cond (.tmp 9) (.seq (.ops r24_2) .ret) .skip)) (.seq (.ops r24_3) (.seq (.seq (.ops r24_4) (.cond (.tmp 15) (.seq (.ops r24_5) .ret) .skip)) (.seq (.seq (.ops r24_6) (.cond (.tmp 17) (.seq (.ops r24_7) .ret) .skip)) (.seq (.ops r24_8) .ret))))))⟩
theorem ok24 : okF Tryd.prog 24 d24 = true := by kernel_rfl
/- farebox/fareboxref22.Even -/
def r25_0 : List J := [
  .op ⟨some 1, none, .bx 27 (.tmp 0)⟩,
  .op ⟨some 2, none, .mv (.const (.bool false))⟩]
def r25_1 : List J := [
  .op ⟨some 3, none, .mv (.const (.int .i64 0))⟩]
def r25_2 : List J := [
  .op ⟨some 4, none, .mv (.tmp 3)⟩,
  .op ⟨some 5, none, .bin .lss (.tmp 4) (.const (.int .i64 3))⟩]
def r25_4 : List J := [
  .op ⟨some 8, none, .mv (.tmp 3)⟩,
  .op ⟨some 9, none, .fa 0 (.tmp 1)⟩,
  .op ⟨some 10, none, .ia 3 1 (.tmp 9) (.tmp 8)⟩,
  .op ⟨some 11, none, .ld 1 false (.tmp 10)⟩,
  .op ⟨some 12, none, .call 30 [(.tmp 11)]⟩,
  .op ⟨some 13, none, .un .not (.tmp 12)⟩,
  .op ⟨some 14, none, .mv (.tmp 13)⟩,
  .lg true 14 21 none [.op ⟨some 15, (some (14, false)), .mv (.tmp 3)⟩, .op ⟨some 16, (some (14, false)), .mv (.tmp 3)⟩, .op ⟨some 17, (some (14, false)), .fa 0 (.tmp 1)⟩, .op ⟨some 18, (some (14, false)), .ia 3 1 (.tmp 17) (.tmp 16)⟩, .op ⟨some 19, (some (14, false)), .ld 1 false (.tmp 18)⟩, .op ⟨some 20, (some (14, false)), .call 31 [(.tmp 15), (.tmp 19)]⟩] (.tmp 20)]
def r25_5 : List J := [
  .op ⟨some 2, none, .mv (.const (.bool false))⟩]
def k25_1 : IC := (.seq (.ops r25_4) (.cond (.tmp 21) (.seq (.ops r25_5) .ret) .skip))
def r25_3 : List J := [
  .op ⟨some 6, none, .mv (.tmp 3)⟩,
  .op ⟨some 7, none, .bin .add (.tmp 6) (.const (.int .i64 1))⟩,
  .op ⟨some 3, none, .mv (.tmp 7)⟩]
def l25_1 : IC := (.seq (.seq (.ops r25_2) (.cond (.tmp 5) .skip (.exit 0))) (.seq (.block 1 k25_1) (.ops r25_3)))
def k25_0 : IC := (.loop l25_1)
def r25_6 : List J := [
  .op ⟨some 22, none, .fa 0 (.tmp 1)⟩,
  .op ⟨some 23, none, .ia 3 1 (.tmp 22) (.const (.int .i64 0))⟩,
  .op ⟨some 24, none, .ld 1 false (.tmp 23)⟩,
  .op ⟨some 25, none, .fa 0 (.tmp 1)⟩,
  .op ⟨some 26, none, .ia 3 1 (.tmp 25) (.const (.int .i64 1))⟩,
  .op ⟨some 27, none, .ld 1 false (.tmp 26)⟩,
  .op ⟨some 28, none, .bin .add (.tmp 24) (.tmp 27)⟩,
  .op ⟨some 29, none, .fa 0 (.tmp 1)⟩,
  .op ⟨some 30, none, .ia 3 1 (.tmp 29) (.const (.int .i64 2))⟩,
  .op ⟨some 31, none, .ld 1 false (.tmp 30)⟩,
  .op ⟨some 32, none, .un .neg (.tmp 31)⟩,
  .op ⟨some 33, none, .bin .eql (.tmp 28) (.tmp 32)⟩,
  .op ⟨some 2, none, .mv (.tmp 33)⟩]
def d25 : FnD := ⟨34, [.tmp 2], (.seq (.ops r25_0) (.seq (.seq (.ops r25_1) (.block 0 k25_0)) (.seq (.ops r25_6) .ret)))⟩
theorem ok25 : okF Tryd.prog 25 d25 = true := by kernel_rfl
end Go.Proofs.YtdelljcdaepgiaaDoor
