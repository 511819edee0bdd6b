/- Texts of a proof, one behind the other: S1 L1. -/
import Derived.Test.YtiflckckekjbnaaGreatDoorMS2
import Derived.Test.YtiflckckekjbnaaGreatDoorProg
namespace Go.Proofs.YtiflckckekjbnaaGreatDoor
open Go Go.Sx Go.RowKit
set_option linter.all false
set_option maxHeartbeats 400000
set_option maxRecDepth 100000
def r10_0:List J:=[oj 2 (.mv (.const (.slice none 0 0)))]
def r10_1:List J:=[oj 3 (.mv (.const (.slice none 0 0)))]
def r10_2:List J:=[oj 5 (.mv 3),oj 6 (.mv 0),oj 7 (.app 5 1 1 [.one (.int .u8 0)] 5 6),oj 3 (.mv 7)]
def r10_3:List J:=[oj 4 (.mv (ci 0))]
def r10_4:List J:=[oj 8 (.mv 4),oj 9 (.bin .lss 8 (ci 130))]
def r10_6:List J:=[oj 12 (.mv 3),oj 13 (.bs 5 1 1 [.one (.int .u8 0)] [(0,1,(.const (.int .u8 165)))]),oj 14 (.app 5 1 1 [.one (.int .u8 0)] 12 13),oj 3 (.mv 14)]
def k10_1:IC:=(.ops r10_6)
def r10_5:List J:=[oj 10 (.mv 4),oj 11 (.bin .add 10 (ci 1)),oj 4 (.mv 11)]
def l10_1:IC:=(.seq (.seq (.ops r10_4) (.cond 9 .skip (.exit 0))) (.seq (.block 1 k10_1) (.ops r10_5)))
def k10_0:IC:=(.loop l10_1)
def r10_7:List J:=[oj 15 (.mv 3),oj 16 (.mv 0),oj 17 (.len 16),oj 18 (.sls 1 15 none (some 17) none),oj 2 (.mv 18)]
def d10:FnD:=⟨19,[.tmp 2],(.seq (.ops r10_0) (.seq (.ops r10_1) (.seq (.ops r10_2) (.seq (.seq (.ops r10_3) (.block 0 k10_0)) (.seq (.ops r10_7) .ret)))))⟩
theorem ok10:okF Tryz.prog 10 d10=true:=by kernel_rfl
def r96_0:List J:=[oj 0 (.mv (.const (.pointer none)))]
def r96_1:List J:=[oj 1 (.ld 8 true (.global 2)),oj 2 (.bd [.ints .u64 8 (List.replicate 8 0),.ints .u8 128 (List.replicate 128 0),.one (.int .i64 0),.one (.int .u64 0)] [(0,8,1)]),oj 3 (.bx 194 2),oj 0 (.mv 3)]
def d96:FnD:=⟨4,[.tmp 0],(.seq (.ops r96_0) (.seq (.ops r96_1) .ret))⟩
theorem ok96:okF Tryz.prog 96 d96=true:=by kernel_rfl
def r183_0:List J:=[oj 0 (.mv (ci 0))]
def r183_1:List J:=[oj 1 (.mv (ci 0))]
def r183_2:List J:=[oj 3 (.conv .u64 (ci 0)),oj 4 (.un .xor 3),oj 2 (.mv 4)]
def r183_3:List J:=[oj 5 (.mv 2),oj 6 (.bin .neq 5 (cu 0))]
def r183_5:List J:=[oj 9 (.mv 1),oj 10 (.bin .add 9 (ci 1)),oj 1 (.mv 10)]
def k183_1:IC:=(.ops r183_5)
def r183_4:List J:=[oj 7 (.mv 2),oj 8 (.bin .shr 7 (cu 1)),oj 2 (.mv 8)]
def l183_1:IC:=(.seq (.seq (.ops r183_3) (.cond 6 .skip (.exit 0))) (.seq (.block 1 k183_1) (.ops r183_4)))
def k183_0:IC:=(.loop l183_1)
def r183_6:List J:=[oj 11 (.mv 1),oj 0 (.mv 11)]
def d183:FnD:=⟨12,[.tmp 0],(.seq (.ops r183_0) (.seq (.ops r183_1) (.seq (.seq (.ops r183_2) (.block 0 k183_0)) (.seq (.ops r183_6) .ret))))⟩
theorem ok183:okF Tryz.prog 183 d183=true:=by kernel_rfl
def r203_0:List J:=[oj 4 (.mv (.const (.slice none 0 0)))]
def r203_1:List J:=[oj 6 (.call 183 []),oj 7 (.bin .quo 6 (ci 8)),oj 5 (.mv 7)]
def r203_2:List J:=[oj 8 (.mv 1),oj 9 (.bin .lss 8 (ci 0)),oj 10 (.mv 9),.lg true 10 17 none [.op ⟨some 11,(some (10,false)),.mv 1⟩,.op ⟨some 12,(some (10,false)),.mv 0⟩,.op ⟨some 13,(some (10,false)),.len 12⟩,.op ⟨some 14,(some (10,false)),.mv 5⟩,.op ⟨some 15,(some (10,false)),.bin .sub 13 14⟩,.op ⟨some 16,(some (10,false)),.bin .gtr 11 15⟩] 16]
def r203_3:List J:=[oj 4 (.mv (.const (.slice none 0 0)))]
def r203_4:List J:=[oj 18 (.mv 0),oj 19 (.mv 1),oj 20 (.mv 1),oj 21 (.mv 5),oj 22 (.bin .add 20 21),oj 23 (.sls 1 18 (some 19) (some 22) none),oj 4 (.mv 23)]
def d203:FnD:=⟨24,[.tmp 4],(.seq (.ops r203_0) (.seq (.ops r203_1) (.seq (.seq (.ops r203_2) (.cond 17 (.seq (.ops r203_3) .ret) .skip)) (.seq (.ops r203_4) .ret))))⟩
theorem ok203:okF Tryz.prog 203 d203=true:=by kernel_rfl
def r218_0:List J:=[oj 4 (.mv (cu 0)),oj 5 (.mv (.const (.bool false)))]
def r218_1:List J:=[oj 6 (.mv (cu 0))]
def r218_2:List J:=[oj 10 (.mv 0),oj 11 (.mv 1),oj 12 (.call 203 [10,11]),oj 7 (.mv 12)]
def r218_3:List J:=[oj 13 (.mv 7),oj 14 (.len 13),oj 15 (.mv (ci 0))]
def r218_4:List J:=[oj 16 (.bin .lss 15 14)]
def r218_5:List J:=[oj 17 (.ias 1 13 15),oj 18 (.ld 1 false 17),oj 9 (.mv 18)]
def r218_6:List J:=[oj 19 (.mv 6),oj 20 (.bin .shl 19 (cu 8)),oj 21 (.mv 9),oj 22 (.conv .u64 21),oj 23 (.bin .or 20 22),oj 6 (.mv 23)]
def k218_1:IC:=(.seq (.ops r218_5) (.ops r218_6))
def r218_7:List J:=[oj 24 (.bin .add 15 (ci 1)),oj 15 (.mv 24)]
def l218_1:IC:=(.seq (.ops r218_4) (.seq (.cond 16 .skip (.exit 0)) (.seq (.block 1 k218_1) (.ops r218_7))))
def k218_0:IC:=(.loop l218_1)
def r218_8:List J:=[oj 25 (.mv 6),oj 26 (.mv 7),oj 27 (.isn true 26),oj 4 (.mv 25),oj 5 (.mv 27)]
def d218:FnD:=⟨28,[.tmp 4,.tmp 5],(.seq (.ops r218_0) (.seq (.ops r218_1) (.seq (.ops r218_2) (.seq (.seq (.ops r218_3) (.block 0 k218_0)) (.seq (.ops r218_8) .ret)))))⟩
theorem ok218:okF Tryz.prog 218 d218=true:=by kernel_rfl
def r220_0:List J:=[oj 4 (.mv (cu 0))]
def r220_1:List J:=[oj 7 (.call 183 []),oj 5 (.mv 7)]
def r220_2:List J:=[oj 8 (.mv 1),oj 9 (.conv .u64 8),oj 10 (.mv 5),oj 11 (.bin .sub 10 (ci 1)),oj 12 (.conv .u64 11),oj 13 (.bin .and 9 12),oj 6 (.mv 13)]
def r220_3:List J:=[oj 14 (.mv 0),oj 15 (.mv 6),oj 16 (.bin .shr 14 15),oj 17 (.mv 0),oj 18 (.mv 5),oj 19 (.conv .u64 18),oj 20 (.mv 6),oj 21 (.bin .sub 19 20),oj 22 (.bin .shl 17 21),oj 23 (.bin .or 16 22),oj 4 (.mv 23)]
def d220:FnD:=⟨24,[.tmp 4],(.seq (.ops r220_0) (.seq (.ops r220_1) (.seq (.ops r220_2) (.seq (.ops r220_3) .ret))))⟩
theorem ok220:okF Tryz.prog 220 d220=true:=by kernel_rfl
def r219_0:List J:=[oj 8 (.mv (cu 0))]
def r219_1:Sch:=(.p [0] (oj 9 (.mv 0)) (.p [1] (oj 10 (.mv 1)) (.p [2] (oj 11 (.call 220 [9,10])) (.p [3] (oj 12 (.mv 0)) (.p [4] (oj 13 (.mv 2)) (.p [5] (oj 14 (.call 220 [12,13])) (.p [6] (oj 15 (.bin .xor 11 14)) (.p [7] (oj 16 (.mv 0)) (.p [8] (oj 17 (.mv 3)) (.p [9] (oj 18 (.bin .shr 16 17)) (.p [10] (oj 19 (.bin .xor 15 18)) (.p [11] (oj 8 (.mv 19)) .nil))))))))))))
def d219:FnD:=⟨20,[.tmp 8],(.seq (.ops r219_0) (.seq (.draw r219_1 []) .ret))⟩
theorem ok219:okF Tryz.prog 219 d219=true:=by kernel_rfl
def r201_0:List J:=[oj 1 (.bx 192 0),oj 2 (.al 211 [.ints .u64 80 (List.replicate 80 0)])]
def r201_1:List J:=[oj 3 (.al 211 [.ints .u64 80 (List.replicate 80 0)])]
def r201_2:List J:=[oj 5 (.mv (ci 0))]
def r201_3:List J:=[oj 6 (.bin .lss 5 (ci 80))]
def r201_4:List J:=[oj 7 (.mv 5),oj 4 (.mv 7)]
def r201_5:List J:=[oj 8 (.mv 4),oj 9 (.bin .lss 8 (ci 16))]
def r201_6:List J:=[oj 11 (.mv 4),oj 12 (.sla 128 1 1 none none none),oj 13 (.mv 4),oj 14 (.bin .mul (ci 8) 13),oj 15 (.call 218 [12,14]),oj 10 (.mv 15),oj 16 (.ext 10 0),oj 17 (.ext 10 1),oj 18 (.ia 80 1 3 11),on_ (.st 1 18 16)]
def r201_7:Sch:=(.p [0] (oj 19 (.mv 4)) (.p [1] (oj 20 (.mv 4)) (.p [2] (oj 21 (.bin .sub 20 (ci 2))) (.p [3] (oj 22 (.ia 80 1 3 21)) (.p [6] (oj 25 (.mv 4)) (.p [7] (oj 26 (.bin .sub 25 (ci 7))) (.p [8] (oj 27 (.ia 80 1 3 26)) (.p [11] (oj 30 (.mv 4)) (.p [12] (oj 31 (.bin .sub 30 (ci 15))) (.p [13] (oj 32 (.ia 80 1 3 31)) (.p [17] (oj 36 (.mv 4)) (.p [18] (oj 37 (.bin .sub 36 (ci 16))) (.p [19] (oj 38 (.ia 80 1 3 37)) (.q [4] (oj 23 (.ld 1 false 22)) (.p [5] (oj 24 (.call 219 [23,(ci 19),(ci 61),(ci 6)])) (.q [9] (oj 28 (.ld 1 false 27)) (.p [10] (oj 29 (.bin .add 24 28)) (.q [14] (oj 33 (.ld 1 false 32)) (.p [15] (oj 34 (.call 219 [33,(ci 1),(ci 8),(ci 7)])) (.p [16] (oj 35 (.bin .add 29 34)) (.q [20] (oj 39 (.ld 1 false 38)) (.p [21] (oj 40 (.bin .add 35 39)) (.p [22] (oj 41 (.ia 80 1 3 19)) (.e 23 (oe (.st 1 41 40)) .nil))))))))))))))))))))))))
def k201_1:IC:=(.seq (.ops r201_4) (.seq (.seq (.ops r201_5) (.cond 9 (.seq (.ops r201_6) (.exit 1)) .skip)) (.draw r201_7 [23])))
def r201_8:List J:=[oj 42 (.bin .add 5 (ci 1)),oj 5 (.mv 42)]
def l201_1:IC:=(.seq (.ops r201_3) (.seq (.cond 6 .skip (.exit 0)) (.seq (.block 1 k201_1) (.ops r201_8))))
def k201_0:IC:=(.loop l201_1)
def r201_9:List J:=[oj 43 (.ld 80 true 3),on_ (.st 80 2 43)]
def d201:FnD:=⟨44,[.cell 2 80 true],(.seq (.ops r201_0) (.seq (.ops r201_1) (.seq (.seq (.ops r201_2) (.block 0 k201_0)) (.seq (.ops r201_9) .ret))))⟩
theorem ok201:okF Tryz.prog 201 d201=true:=by kernel_rfl
def r202_0:List J:=[oj 8 (.mv (cu 0))]
def r202_1:List J:=[oj 9 (.mv 0),oj 10 (.mv 1),oj 11 (.call 220 [9,10]),oj 12 (.mv 0),oj 13 (.mv 2),oj 14 (.call 220 [12,13]),oj 15 (.bin .xor 11 14),oj 16 (.mv 0),oj 17 (.mv 3),oj 18 (.call 220 [16,17]),oj 19 (.bin .xor 15 18),oj 8 (.mv 19)]
def d202:FnD:=⟨20,[.tmp 8],(.seq (.ops r202_0) (.seq (.ops r202_1) .ret))⟩
theorem ok202:okF Tryz.prog 202 d202=true:=by kernel_rfl
def r159_0:List J:=[oj 2 (.bx 144 0),oj 3 (.bx 192 1),oj 4 (.al 144 [.ints .u64 8 (List.replicate 8 0)])]
def r159_1:List J:=[oj 20 (.ld 128 true 3),oj 21 (.call 201 [20]),oj 5 (.al 211 [.ints .u64 80 (List.replicate 80 0)]),on_ (.st 80 5 21)]
def r159_2:Sch:=(.p [0] (oj 22 (.ia 8 1 2 (ci 0))) (.p [2] (oj 24 (.ia 8 1 2 (ci 1))) (.p [4] (oj 26 (.ia 8 1 2 (ci 2))) (.p [6] (oj 28 (.ia 8 1 2 (ci 3))) (.q [1] (oj 23 (.ld 1 false 22)) (.p [8] (oj 6 (.mv 23)) (.q [3] (oj 25 (.ld 1 false 24)) (.p [9] (oj 7 (.mv 25)) (.q [5] (oj 27 (.ld 1 false 26)) (.p [10] (oj 8 (.mv 27)) (.q [7] (oj 29 (.ld 1 false 28)) (.p [11] (oj 9 (.mv 29)) .nil))))))))))))
def r159_3:Sch:=(.p [0] (oj 30 (.ia 8 1 2 (ci 4))) (.p [2] (oj 32 (.ia 8 1 2 (ci 5))) (.p [4] (oj 34 (.ia 8 1 2 (ci 6))) (.p [6] (oj 36 (.ia 8 1 2 (ci 7))) (.q [1] (oj 31 (.ld 1 false 30)) (.p [8] (oj 10 (.mv 31)) (.q [3] (oj 33 (.ld 1 false 32)) (.p [9] (oj 11 (.mv 33)) (.q [5] (oj 35 (.ld 1 false 34)) (.p [10] (oj 12 (.mv 35)) (.q [7] (oj 37 (.ld 1 false 36)) (.p [11] (oj 13 (.mv 37)) .nil))))))))))))
def r159_4:List J:=[oj 38 (.ld 80 true (.global 4)),oj 39 (.mv (ci 0))]
def r159_5:List J:=[oj 40 (.bin .lss 39 (ci 80))]
def r159_6:List J:=[oj 41 (.mv 39),oj 42 (.idx 80 1 false 38 39),oj 14 (.mv 41),oj 15 (.mv 42)]
def r159_7:Sch:=(.p [0] (oj 43 (.mv 13)) (.p [1] (oj 44 (.mv 10)) (.p [2] (oj 45 (.call 202 [44,(ci 14),(ci 18),(ci 41)])) (.p [3] (oj 46 (.bin .add 43 45)) (.p [4] (oj 47 (.mv 10)) (.p [5] (oj 48 (.mv 11)) (.p [6] (oj 49 (.bin .and 47 48)) (.p [7] (oj 50 (.mv 10)) (.p [8] (oj 51 (.un .xor 50)) (.p [9] (oj 52 (.mv 12)) (.p [10] (oj 53 (.bin .and 51 52)) (.p [11] (oj 54 (.bin .xor 49 53)) (.p [12] (oj 55 (.bin .add 46 54)) (.p [13] (oj 56 (.mv 15)) (.p [14] (oj 57 (.bin .add 55 56)) (.p [15] (oj 58 (.mv 14)) (.p [16] (oj 59 (.ia 80 1 5 58)) (.q [17] (oj 60 (.ld 1 false 59)) (.p [18] (oj 61 (.bin .add 57 60)) (.p [19] (oj 16 (.mv 61)) .nil))))))))))))))))))))
def r159_8:List J:=[oj 62 (.mv 6),oj 63 (.call 202 [62,(ci 28),(ci 34),(ci 39)]),oj 64 (.mv 6),oj 65 (.mv 7),oj 66 (.bin .and 64 65),oj 67 (.mv 6),oj 68 (.mv 8),oj 69 (.bin .and 67 68),oj 70 (.bin .xor 66 69),oj 71 (.mv 7),oj 72 (.mv 8),oj 73 (.bin .and 71 72),oj 74 (.bin .xor 70 73),oj 75 (.bin .add 63 74),oj 17 (.mv 75)]
def r159_9:List J:=[oj 76 (.mv 12),oj 77 (.mv 11),oj 78 (.mv 10),oj 79 (.mv 9),oj 80 (.mv 16),oj 81 (.bin .add 79 80),oj 82 (.mv 8),oj 83 (.mv 7),oj 84 (.mv 6),oj 85 (.mv 16),oj 86 (.mv 17),oj 87 (.bin .add 85 86),oj 13 (.mv 76),oj 12 (.mv 77),oj 11 (.mv 78),oj 10 (.mv 81),oj 9 (.mv 82),oj 8 (.mv 83),oj 7 (.mv 84),oj 6 (.mv 87)]
def k159_1:IC:=(.seq (.ops r159_6) (.seq (.draw r159_7 []) (.seq (.ops r159_8) (.ops r159_9))))
def r159_10:List J:=[oj 88 (.bin .add 39 (ci 1)),oj 39 (.mv 88)]
def l159_1:IC:=(.seq (.ops r159_5) (.seq (.cond 40 .skip (.exit 0)) (.seq (.block 1 k159_1) (.ops r159_10))))
def k159_0:IC:=(.loop l159_1)
def r159_11:List J:=[oj 89 (.mv 6),oj 90 (.mv 7),oj 91 (.mv 8),oj 92 (.mv 9),oj 93 (.mv 10),oj 94 (.mv 11),oj 95 (.mv 12),oj 96 (.mv 13),oj 97 (.bd [.ints .u64 8 (List.replicate 8 0)] [(0,1,89),(1,1,90),(2,1,91),(3,1,92),(4,1,93),(5,1,94),(6,1,95),(7,1,96)]),oj 98 (.mv (ci 0))]
def r159_12:List J:=[oj 99 (.bin .lss 98 (ci 8))]
def r159_13:List J:=[oj 100 (.mv 98),oj 101 (.idx 8 1 false 97 98),oj 18 (.mv 100),oj 19 (.mv 101)]
def r159_14:List J:=[oj 102 (.mv 18),oj 103 (.ia 8 1 2 102),oj 104 (.ld 1 false 103),oj 105 (.mv 19),oj 106 (.bin .add 104 105),oj 107 (.ia 8 1 2 102),on_ (.st 1 107 106)]
def k159_3:IC:=(.seq (.ops r159_13) (.ops r159_14))
def r159_15:List J:=[oj 108 (.bin .add 98 (ci 1)),oj 98 (.mv 108)]
def l159_2:IC:=(.seq (.ops r159_12) (.seq (.cond 99 .skip (.exit 2)) (.seq (.block 3 k159_3) (.ops r159_15))))
def k159_2:IC:=(.loop l159_2)
def r159_16:List J:=[oj 109 (.ld 8 true 2),on_ (.st 8 4 109)]
def d159:FnD:=⟨110,[.cell 4 8 true],(.seq (.ops r159_0) (.seq (.ops r159_1) (.seq (.draw r159_2 []) (.seq (.draw r159_3 []) (.seq (.seq (.ops r159_4) (.block 0 k159_0)) (.seq (.seq (.ops r159_11) (.block 2 k159_2)) (.seq (.ops r159_16) .ret)))))))⟩
theorem ok159:okF Tryz.prog 159 d159=true:=by kernel_rfl
def r97_0:List J:=[oj 5 (.mv 0),oj 6 (.nilc 5),oj 7 (.fa 137 6),oj 8 (.ld 1 false 7),oj 9 (.mv 1),oj 10 (.len 9),oj 11 (.conv .u64 10),oj 12 (.bin .add 8 11),oj 13 (.nilc 5),oj 14 (.fa 137 13),on_ (.st 1 14 12)]
def r97_1:List J:=[oj 15 (.mv 1),oj 16 (.len 15),oj 17 (.bin .gtr 16 (ci 0))]
def r97_2:Sch:=(.p [0] (oj 18 (.mv 0)) (.p [1] (oj 19 (.nilc 18)) (.p [2] (oj 20 (.fa 8 19)) (.p [3] (oj 21 (.mv 0)) (.p [4] (oj 22 (.nilc 21)) (.p [5] (oj 23 (.fa 136 22)) (.p [8] (oj 26 (.mv 1)) (.q [6] (oj 24 (.ld 1 false 23)) (.p [7] (oj 25 (.sla 128 1 20 (some 24) none none)) (.e 9 (oi 27 (.cpy 1 25 26)) (.p [10] (oj 4 (.mv 27)) .nil)))))))))))
def r97_3:List J:=[oj 28 (.mv 1),oj 29 (.mv 4),oj 30 (.sls 1 28 (some 29) none none),oj 1 (.mv 30)]
def r97_4:List J:=[oj 31 (.mv 0),oj 32 (.nilc 31),oj 33 (.fa 136 32),oj 34 (.ld 1 false 33),oj 35 (.mv 4),oj 36 (.bin .add 34 35),oj 37 (.nilc 31),oj 38 (.fa 136 37),on_ (.st 1 38 36)]
def r97_5:List J:=[oj 39 (.mv 0),oj 40 (.nilc 39),oj 41 (.fa 136 40),oj 42 (.ld 1 false 41),oj 43 (.bin .eql 42 (ci 128))]
def r97_6:Sch:=(.p [0] (oj 44 (.mv 0)) (.p [1] (oj 45 (.mv 0)) (.p [2] (oj 46 (.nilc 45)) (.p [3] (oj 47 (.fa 0 46)) (.p [5] (oj 49 (.mv 0)) (.p [6] (oj 50 (.nilc 49)) (.p [7] (oj 51 (.fa 8 50)) (.q [4] (oj 48 (.ld 8 true 47)) (.q [8] (oj 52 (.ld 128 true 51)) (.p [9] (oj 53 (.call 159 [48,52])) (.p [10] (oj 54 (.nilc 44)) (.p [11] (oj 55 (.fa 0 54)) (.e 12 (oe (.st 8 55 53)) .nil)))))))))))))
def r97_7:List J:=[oj 56 (.mv 0),oj 57 (.nilc 56),oj 58 (.fa 136 57),on_ (.st 1 58 (ci 0))]
def k97_1:IC:=(.seq (.draw r97_2 [9]) (.seq (.ops r97_3) (.seq (.ops r97_4) (.seq (.ops r97_5) (.cond 43 (.seq (.draw r97_6 [12]) (.ops r97_7)) .skip)))))
def l97_1:IC:=(.seq (.seq (.ops r97_1) (.cond 17 .skip (.exit 0))) (.block 1 k97_1))
def k97_0:IC:=(.loop l97_1)
def d97:FnD:=⟨59,[],(.seq (.ops r97_0) (.block 0 k97_0))⟩
theorem ok97:okF Tryz.prog 97 d97=true:=by kernel_rfl
def r118_0:List J:=[oj 2 (.mv (.const (.slice none 0 0)))]
def r118_1:List J:=[oj 5 (.call 183 []),oj 6 (.bin .quo 5 (ci 8)),oj 7 (.mks 5 1 [.one (.int .u8 0)] 6 6),oj 3 (.mv 7)]
def r118_2:List J:=[oj 8 (.mv 3),oj 9 (.len 8),oj 10 (.bin .sub 9 (ci 1)),oj 4 (.mv 10)]
def r118_3:List J:=[oj 11 (.mv 4),oj 12 (.bin .geq 11 (ci 0))]
def r118_5:List J:=[oj 15 (.mv 3),oj 16 (.mv 4),oj 17 (.mv 0),oj 18 (.conv .u8 17),oj 19 (.ias 1 15 16),on_ (.st 1 19 18)]
def r118_6:List J:=[oj 20 (.mv 0),oj 21 (.bin .shr 20 (cu 8)),oj 0 (.mv 21)]
def k118_1:IC:=(.seq (.ops r118_5) (.ops r118_6))
def r118_4:List J:=[oj 13 (.mv 4),oj 14 (.bin .sub 13 (ci 1)),oj 4 (.mv 14)]
def l118_1:IC:=(.seq (.seq (.ops r118_3) (.cond 12 .skip (.exit 0))) (.seq (.block 1 k118_1) (.ops r118_4)))
def k118_0:IC:=(.loop l118_1)
def r118_7:List J:=[oj 22 (.mv 3),oj 2 (.mv 22)]
def d118:FnD:=⟨23,[.tmp 2],(.seq (.ops r118_0) (.seq (.ops r118_1) (.seq (.seq (.ops r118_2) (.block 0 k118_0)) (.seq (.ops r118_7) .ret))))⟩
theorem ok118:okF Tryz.prog 118 d118=true:=by kernel_rfl
def r163_0:List J:=[oj 2 (.mv (.const (.pointer none)))]
def r163_1:List J:=[oj 4 (.mv 0),oj 5 (.nilc 4),oj 6 (.ld 138 true 5),oj 3 (.al 194 [.ints .u64 8 (List.replicate 8 0),.ints .u8 128 (List.replicate 128 0),.one (.int .i64 0),.one (.int .u64 0)]),on_ (.st 138 3 6)]
def r163_2:List J:=[oj 2 (.mv 3)]
def d163:FnD:=⟨7,[.tmp 2],(.seq (.ops r163_0) (.seq (.ops r163_1) (.seq (.ops r163_2) .ret)))⟩
theorem ok163:okF Tryz.prog 163 d163=true:=by kernel_rfl
def r164_0:List J:=[oj 2 (.mv (.const (.slice none 0 0)))]
def r164_1:List J:=[oj 5 (.mv 0),oj 6 (.bin .add 5 (cu 17)),oj 7 (.bin .rem 6 (cu 128)),oj 8 (.conv .i64 7),oj 9 (.bin .sub (ci 128) 8),oj 10 (.bin .rem 9 (ci 128)),oj 3 (.mv 10)]
def r164_2:List J:=[oj 11 (.mv 3),oj 12 (.bin .add (ci 17) 11),oj 13 (.mks 5 1 [.one (.int .u8 0)] (ci 0) 12),oj 4 (.mv 13)]
def r164_3:List J:=[oj 14 (.mv 4),oj 15 (.bs 5 1 1 [.one (.int .u8 0)] [(0,1,(.const (.int .u8 128)))]),oj 16 (.app 5 1 1 [.one (.int .u8 0)] 14 15),oj 4 (.mv 16)]
def r164_4:List J:=[oj 17 (.mv 4),oj 18 (.mv 3),oj 19 (.apz 5 1 1 [.one (.int .u8 0)] 17 18),oj 4 (.mv 19)]
def r164_5:List J:=[oj 20 (.mv 4),oj 21 (.mv 0),oj 22 (.bin .shr 21 (cu 61)),oj 23 (.call 118 [22]),oj 24 (.app 5 1 1 [.one (.int .u8 0)] 20 23),oj 4 (.mv 24)]
def r164_6:List J:=[oj 25 (.mv 4),oj 26 (.mv 0),oj 27 (.bin .shl 26 (cu 3)),oj 28 (.call 118 [27]),oj 29 (.app 5 1 1 [.one (.int .u8 0)] 25 28),oj 2 (.mv 29)]
def d164:FnD:=⟨30,[.tmp 2],(.seq (.ops r164_0) (.seq (.ops r164_1) (.seq (.ops r164_2) (.seq (.ops r164_3) (.seq (.ops r164_4) (.seq (.ops r164_5) (.seq (.ops r164_6) .ret)))))))⟩
theorem ok164:okF Tryz.prog 164 d164=true:=by kernel_rfl
def r99_0:List J:=[oj 2 (.al 94 [.ints .u8 64 (List.replicate 64 0)])]
def r99_1:List J:=[oj 7 (.mv 0),oj 8 (.call 163 [7]),oj 3 (.mv 8)]
def r99_2:List J:=[oj 9 (.mv 3),oj 10 (.mv 0),oj 11 (.nilc 10),oj 12 (.fa 137 11),oj 13 (.ld 1 false 12),oj 14 (.call 164 [13]),oj 15 (.call 97 [9,14])]
def r99_3:List J:=[oj 4 (.al 94 [.ints .u8 64 (List.replicate 64 0)])]
def r99_4:List J:=[oj 16 (.mv 3),oj 17 (.nilc 16),oj 18 (.fa 0 17),oj 19 (.ld 8 true 18),oj 20 (.mv (ci 0))]
def r99_5:List J:=[oj 21 (.bin .lss 20 (ci 8))]
def r99_6:List J:=[oj 22 (.mv 20),oj 23 (.idx 8 1 false 19 20),oj 5 (.mv 22),oj 6 (.mv 23)]
def r99_7:Sch:=(.p [0] (oj 24 (.mv 5)) (.p [1] (oj 25 (.bin .mul (ci 8) 24)) (.p [2] (oj 26 (.sla 64 1 4 (some 25) none none)) (.p [3] (oj 27 (.mv 6)) (.e 4 (oi 28 (.call 118 [27])) (.e 5 (oi 29 (.cpy 1 26 28)) .nil))))))
def k99_1:IC:=(.seq (.ops r99_6) (.draw r99_7 [5]))
def r99_8:List J:=[oj 30 (.bin .add 20 (ci 1)),oj 20 (.mv 30)]
def l99_1:IC:=(.seq (.ops r99_5) (.seq (.cond 21 .skip (.exit 0)) (.seq (.block 1 k99_1) (.ops r99_8))))
def k99_0:IC:=(.loop l99_1)
def r99_9:List J:=[oj 31 (.ld 64 true 4),on_ (.st 64 2 31)]
def d99:FnD:=⟨32,[.cell 2 64 true],(.seq (.ops r99_0) (.seq (.ops r99_1) (.seq (.ops r99_2) (.seq (.ops r99_3) (.seq (.seq (.ops r99_4) (.block 0 k99_0)) (.seq (.ops r99_9) .ret))))))⟩
theorem ok99:okF Tryz.prog 99 d99=true:=by kernel_rfl
def r88_0:List J:=[oj 2 (.al 94 [.ints .u8 64 (List.replicate 64 0)])]
def r88_1:List J:=[oj 4 (.call 96 []),oj 3 (.mv 4)]
def r88_2:List J:=[oj 5 (.mv 3),oj 6 (.mv 0),oj 7 (.call 97 [5,6])]
def r88_3:List J:=[oj 8 (.mv 3),oj 9 (.call 99 [8]),on_ (.st 64 2 9)]
def d88:FnD:=⟨10,[.cell 2 64 true],(.seq (.ops r88_0) (.seq (.ops r88_1) (.seq (.ops r88_2) (.seq (.ops r88_3) .ret))))⟩
theorem ok88:okF Tryz.prog 88 d88=true:=by kernel_rfl
def r89_0:List J:=[oj 1 (.bx 22 0),oj 2 (.al 74 [.ints .u8 32 (List.replicate 32 0)])]
def r89_1:List J:=[oj 3 (.ia 32 1 1 (ci 0)),oj 4 (.ld 1 false 3),oj 5 (.bin .andNot 4 (.const (.int .u8 7))),oj 6 (.ia 32 1 1 (ci 0)),on_ (.st 1 6 5)]
def r89_2:List J:=[oj 7 (.ia 32 1 1 (ci 31)),oj 8 (.ld 1 false 7),oj 9 (.bin .and 8 (.const (.int .u8 127))),oj 10 (.bin .or 9 (.const (.int .u8 64))),oj 11 (.ia 32 1 1 (ci 31)),on_ (.st 1 11 10)]
def r89_3:List J:=[oj 12 (.ld 32 true 1),on_ (.st 32 2 12)]
def d89:FnD:=⟨13,[.cell 2 32 true],(.seq (.ops r89_0) (.seq (.ops r89_1) (.seq (.ops r89_2) (.seq (.ops r89_3) .ret))))⟩
theorem ok89:okF Tryz.prog 89 d89=true:=by kernel_rfl
def r49_0:List J:=[oj 1 (.bx 23 0),oj 2 (.al 74 [.ints .u8 32 (List.replicate 32 0)]),oj 3 (.mv (.const (.slice none 0 0)))]
def r49_1:List J:=[oj 5 (.sla 32 1 1 none none none),oj 6 (.call 88 [5]),oj 4 (.al 94 [.ints .u8 64 (List.replicate 64 0)]),on_ (.st 64 4 6)]
def r49_2:Sch:=(.p [0] (oj 7 (.sla 64 1 4 none (some (ci 32)) none)) (.p [1] (oj 8 (.s2a 32 7)) (.p [4] (oj 11 (.sla 64 1 4 (some (ci 32)) none none)) (.q [2] (oj 9 (.ld 32 true 8)) (.p [3] (oj 10 (.call 89 [9])) (.e 5 (oe (.st 32 2 10)) (.p [6] (oj 3 (.mv 11)) .nil)))))))
def d49:FnD:=⟨12,[.cell 2 32 true,.tmp 3],(.seq (.ops r49_0) (.seq (.ops r49_1) (.seq (.draw r49_2 [5]) .ret)))⟩
theorem ok49:okF Tryz.prog 49 d49=true:=by kernel_rfl
def r156_0:List J:=[oj 1 (.bx 80 0),oj 2 (.al 80 [Z5])]
def r156_1:List J:=[oj 3 (.ia 5 1 1 (ci 0)),oj 4 (.ld 1 false 3),oj 5 (.bin .and 4 (cu 2251799813685247)),oj 6 (.ia 5 1 1 (ci 4)),oj 7 (.ld 1 false 6),oj 8 (.bin .shr 7 (cu 51)),oj 9 (.bin .mul 8 (cu 19)),oj 10 (.bin .add 5 9),oj 11 (.ia 5 1 1 (ci 1)),oj 12 (.ld 1 false 11),oj 13 (.bin .and 12 (cu 2251799813685247)),oj 14 (.ia 5 1 1 (ci 0)),oj 15 (.ld 1 false 14),oj 16 (.bin .shr 15 (cu 51)),oj 17 (.bin .add 13 16),oj 18 (.ia 5 1 1 (ci 2)),oj 19 (.ld 1 false 18),oj 20 (.bin .and 19 (cu 2251799813685247)),oj 21 (.ia 5 1 1 (ci 1)),oj 22 (.ld 1 false 21),oj 23 (.bin .shr 22 (cu 51)),oj 24 (.bin .add 20 23),oj 25 (.ia 5 1 1 (ci 3)),oj 26 (.ld 1 false 25),oj 27 (.bin .and 26 (cu 2251799813685247)),oj 28 (.ia 5 1 1 (ci 2)),oj 29 (.ld 1 false 28),oj 30 (.bin .shr 29 (cu 51)),oj 31 (.bin .add 27 30),oj 32 (.ia 5 1 1 (ci 4)),oj 33 (.ld 1 false 32),oj 34 (.bin .and 33 (cu 2251799813685247)),oj 35 (.ia 5 1 1 (ci 3)),oj 36 (.ld 1 false 35),oj 37 (.bin .shr 36 (cu 51)),oj 38 (.bin .add 34 37),oj 39 (.bd [Z5] [(0,1,10),(1,1,17),(2,1,24),(3,1,31),(4,1,38)]),on_ (.st 5 2 39)]
def d156:FnD:=⟨40,[.cell 2 5 true],(.seq (.ops r156_0) (.seq (.ops r156_1) .ret))⟩
theorem ok156:okF Tryz.prog 156 d156=true:=by kernel_rfl
def r155_0:List J:=[oj 1 (.bx 80 0),oj 2 (.al 80 [Z5])]
def r155_1:List J:=[oj 7 (.ld 5 true 1),oj 8 (.call 156 [7]),oj 9 (.call 156 [8]),on_ (.st 5 1 9)]
def r155_2:List J:=[oj 10 (.ia 5 1 1 (ci 0)),oj 11 (.ld 1 false 10),oj 12 (.bin .add 11 (cu 19)),oj 13 (.bin .shr 12 (cu 51)),oj 3 (.mv 13)]
def r155_3:List J:=[oj 14 (.sla 5 1 1 (some (ci 1)) none none),oj 15 (.len 14),oj 16 (.mv (ci 0))]
def r155_4:List J:=[oj 17 (.bin .lss 16 15)]
def r155_5:List J:=[oj 18 (.ias 1 14 16),oj 19 (.ld 1 false 18),oj 5 (.mv 19)]
def r155_6:List J:=[oj 20 (.mv 5),oj 21 (.mv 3),oj 22 (.bin .add 20 21),oj 23 (.bin .shr 22 (cu 51)),oj 3 (.mv 23)]
def k155_1:IC:=(.seq (.ops r155_5) (.ops r155_6))
def r155_7:List J:=[oj 24 (.bin .add 16 (ci 1)),oj 16 (.mv 24)]
def l155_1:IC:=(.seq (.ops r155_4) (.seq (.cond 17 .skip (.exit 0)) (.seq (.block 1 k155_1) (.ops r155_7))))
def k155_0:IC:=(.loop l155_1)
def r155_8:List J:=[oj 25 (.ia 5 1 1 (ci 0)),oj 26 (.ld 1 false 25),oj 27 (.mv 3),oj 28 (.bin .mul (cu 19) 27),oj 29 (.bin .add 26 28),oj 30 (.ia 5 1 1 (ci 0)),on_ (.st 1 30 29)]
def r155_9:List J:=[oj 31 (.mv (ci 0))]
def r155_10:List J:=[oj 32 (.bin .lss 31 (ci 4))]
def r155_11:List J:=[oj 33 (.mv 31),oj 6 (.mv 33)]
def r155_12:Sch:=(.p [0] (oj 34 (.mv 6)) (.p [1] (oj 35 (.bin .add 34 (ci 1))) (.p [2] (oj 36 (.ia 5 1 1 35)) (.p [4] (oj 38 (.mv 6)) (.p [5] (oj 39 (.ia 5 1 1 38)) (.q [3] (oj 37 (.ld 1 false 36)) (.q [6] (oj 40 (.ld 1 false 39)) (.p [7] (oj 41 (.bin .shr 40 (cu 51))) (.p [8] (oj 42 (.bin .add 37 41)) (.p [9] (oj 43 (.ia 5 1 1 35)) (.e 10 (oe (.st 1 43 42)) .nil)))))))))))
def r155_13:List J:=[oj 44 (.mv 6),oj 45 (.ia 5 1 1 44),oj 46 (.ld 1 false 45),oj 47 (.bin .and 46 (cu 2251799813685247)),oj 48 (.ia 5 1 1 44),on_ (.st 1 48 47)]
def k155_3:IC:=(.seq (.ops r155_11) (.seq (.draw r155_12 [10]) (.ops r155_13)))
def r155_14:List J:=[oj 49 (.bin .add 31 (ci 1)),oj 31 (.mv 49)]
def l155_2:IC:=(.seq (.ops r155_10) (.seq (.cond 32 .skip (.exit 2)) (.seq (.block 3 k155_3) (.ops r155_14))))
def k155_2:IC:=(.loop l155_2)
def r155_15:List J:=[oj 50 (.ia 5 1 1 (ci 4)),oj 51 (.ld 1 false 50),oj 52 (.bin .and 51 (cu 2251799813685247)),oj 53 (.ia 5 1 1 (ci 4)),on_ (.st 1 53 52)]
def r155_16:List J:=[oj 54 (.ld 5 true 1),on_ (.st 5 2 54)]
def d155:FnD:=⟨55,[.cell 2 5 true],(.seq (.ops r155_0) (.seq (.ops r155_1) (.seq (.ops r155_2) (.seq (.seq (.ops r155_3) (.block 0 k155_0)) (.seq (.ops r155_8) (.seq (.seq (.ops r155_9) (.block 2 k155_2)) (.seq (.ops r155_15) (.seq (.ops r155_16) .ret))))))))⟩
theorem ok155:okF Tryz.prog 155 d155=true:=by kernel_rfl
def r200_0:List J:=[oj 4 (.mv (cu 0)),oj 5 (.mv (cu 0))]
def r200_1:List J:=[oj 14 (.mv 0),oj 15 (.bin .and 14 (cu 4294967295)),oj 6 (.mv 15)]
def r200_2:List J:=[oj 16 (.mv 0),oj 17 (.bin .shr 16 (cu 32)),oj 7 (.mv 17)]
def r200_3:List J:=[oj 18 (.mv 1),oj 19 (.bin .and 18 (cu 4294967295)),oj 8 (.mv 19)]
def r200_4:List J:=[oj 20 (.mv 1),oj 21 (.bin .shr 20 (cu 32)),oj 9 (.mv 21)]
def r200_5:List J:=[oj 22 (.mv 6),oj 23 (.mv 8),oj 24 (.bin .mul 22 23),oj 10 (.mv 24)]
def r200_6:List J:=[oj 25 (.mv 7),oj 26 (.mv 8),oj 27 (.bin .mul 25 26),oj 28 (.mv 10),oj 29 (.bin .shr 28 (cu 32)),oj 30 (.bin .add 27 29),oj 11 (.mv 30)]
def r200_7:List J:=[oj 31 (.mv 11),oj 32 (.bin .and 31 (cu 4294967295)),oj 12 (.mv 32)]
def r200_8:List J:=[oj 33 (.mv 11),oj 34 (.bin .shr 33 (cu 32)),oj 13 (.mv 34)]
def r200_9:List J:=[oj 35 (.mv 12),oj 36 (.mv 6),oj 37 (.mv 9),oj 38 (.bin .mul 36 37),oj 39 (.bin .add 35 38),oj 12 (.mv 39)]
def r200_10:List J:=[oj 40 (.mv 7),oj 41 (.mv 9),oj 42 (.bin .mul 40 41),oj 43 (.mv 13),oj 44 (.bin .add 42 43),oj 45 (.mv 12),oj 46 (.bin .shr 45 (cu 32)),oj 47 (.bin .add 44 46),oj 4 (.mv 47)]
def r200_11:List J:=[oj 48 (.mv 0),oj 49 (.mv 1),oj 50 (.bin .mul 48 49),oj 5 (.mv 50)]
def d200:FnD:=⟨51,[.tmp 4,.tmp 5],(.seq (.ops r200_0) (.seq (.ops r200_1) (.seq (.ops r200_2) (.seq (.ops r200_3) (.seq (.ops r200_4) (.seq (.ops r200_5) (.seq (.ops r200_6) (.seq (.ops r200_7) (.seq (.ops r200_8) (.seq (.ops r200_9) (.seq (.ops r200_10) (.seq (.ops r200_11) .ret))))))))))))⟩
theorem ok200:okF Tryz.prog 200 d200=true:=by kernel_rfl
def r157_0:List J:=[oj 10 (.mv 1),oj 11 (.mv 2),oj 12 (.call 200 [10,11]),oj 9 (.mv 12),oj 13 (.ext 9 0),oj 14 (.ext 9 1),oj 6 (.mv 13),oj 7 (.mv 14)]
def r157_1:List J:=[oj 8 (.mv (cu 0))]
def r157_2:List J:=[oj 16 (.mv 0),oj 17 (.mv 0),oj 18 (.nilc 17),oj 19 (.fa 1 18),oj 20 (.ld 1 false 19),oj 21 (.mv 7),oj 22 (.xcall 158 [20,21,(cu 0)]),oj 15 (.mv 22),oj 23 (.ext 15 0),oj 24 (.ext 15 1),oj 25 (.nilc 16),oj 26 (.fa 1 25),on_ (.st 1 26 23),oj 8 (.mv 24)]
def r157_3:List J:=[oj 28 (.mv 0),oj 29 (.mv 0),oj 30 (.nilc 29),oj 31 (.fa 0 30),oj 32 (.ld 1 false 31),oj 33 (.mv 6),oj 34 (.mv 8),oj 35 (.xcall 158 [32,33,34]),oj 27 (.mv 35),oj 36 (.ext 27 0),oj 37 (.ext 27 1),oj 38 (.nilc 28),oj 39 (.fa 0 38),on_ (.st 1 39 36)]
def d157:FnD:=⟨40,[],(.seq (.ops r157_0) (.seq (.ops r157_1) (.seq (.ops r157_2) (.ops r157_3))))⟩
theorem ok157:okF Tryz.prog 157 d157=true:=by kernel_rfl
def r92_0:List J:=[oj 2 (.bx 80 0),oj 3 (.bx 80 1),oj 4 (.al 80 [Z5])]
def r92_1:Sch:=(.q [0] (oj 19 (.ld 5 true 2)) (.p [1] (oj 20 (.call 156 [19])) (.q [2] (oj 21 (.ld 5 true 3)) (.p [3] (oj 22 (.call 156 [21])) (.e 4 (oe (.st 5 2 20)) (.e 5 (oe (.st 5 3 22)) .nil))))))
def r92_2:List J:=[oj 5 (.al 188 [Z10])]
def r92_3:List J:=[oj 23 (.ld 5 true 2),oj 24 (.mv (ci 0))]
def r92_4:List J:=[oj 25 (.bin .lss 24 (ci 5))]
def r92_5:List J:=[oj 26 (.mv 24),oj 27 (.idx 5 1 false 23 24),oj 6 (.mv 26),oj 7 (.mv 27)]
def r92_6:List J:=[oj 28 (.ld 5 true 3),oj 29 (.mv (ci 0))]
def r92_7:List J:=[oj 30 (.bin .lss 29 (ci 5))]
def r92_8:List J:=[oj 31 (.mv 29),oj 32 (.idx 5 1 false 28 29),oj 8 (.mv 31),oj 9 (.mv 32)]
def r92_9:List J:=[oj 33 (.mv 6),oj 34 (.mv 8),oj 35 (.bin .add 33 34),oj 36 (.bin .lss 35 (ci 5))]
def r92_10:List J:=[oj 37 (.mv 6),oj 38 (.mv 8),oj 39 (.bin .add 37 38),oj 40 (.ia 5 2 5 39),oj 41 (.mv 7),oj 42 (.mv 9),oj 43 (.call 157 [40,41,42])]
def r92_11:List J:=[oj 44 (.mv 6),oj 45 (.mv 8),oj 46 (.bin .add 44 45),oj 47 (.bin .sub 46 (ci 5)),oj 48 (.ia 5 2 5 47),oj 49 (.mv 7),oj 50 (.mv 9),oj 51 (.bin .mul (cu 19) 50),oj 52 (.call 157 [48,49,51])]
def k92_3:IC:=(.seq (.ops r92_8) (.seq (.ops r92_9) (.cond 36 (.ops r92_10) (.ops r92_11))))
def r92_12:List J:=[oj 53 (.bin .add 29 (ci 1)),oj 29 (.mv 53)]
def l92_2:IC:=(.seq (.ops r92_7) (.seq (.cond 30 .skip (.exit 2)) (.seq (.block 3 k92_3) (.ops r92_12))))
def k92_2:IC:=(.loop l92_2)
def k92_1:IC:=(.seq (.ops r92_5) (.seq (.ops r92_6) (.block 2 k92_2)))
def r92_13:List J:=[oj 54 (.bin .add 24 (ci 1)),oj 24 (.mv 54)]
def l92_1:IC:=(.seq (.ops r92_4) (.seq (.cond 25 .skip (.exit 0)) (.seq (.block 1 k92_1) (.ops r92_13))))
def k92_0:IC:=(.loop l92_1)
def r92_14:List J:=[oj 10 (.al 80 [Z5])]
def r92_15:List J:=[oj 11 (.mv (cu 0))]
def r92_16:List J:=[oj 55 (.ld 10 true 5),oj 56 (.mv (ci 0))]
def r92_17:List J:=[oj 57 (.bin .lss 56 (ci 5))]
def r92_18:List J:=[oj 58 (.mv 56),oj 59 (.idx 5 2 true 55 56),oj 13 (.al 187 [.ints .u64 2 (List.replicate 2 0)]),oj 12 (.mv 58),on_ (.st 2 13 59)]
def r92_19:List J:=[oj 61 (.fa 1 13),oj 62 (.ld 1 false 61),oj 63 (.mv 11),oj 64 (.xcall 158 [62,63,(cu 0)]),oj 60 (.mv 64),oj 65 (.ext 60 0),oj 66 (.ext 60 1),oj 14 (.mv 65),oj 15 (.mv 66)]
def r92_20:List J:=[oj 67 (.mv 12),oj 68 (.mv 14),oj 69 (.bin .and 68 (cu 2251799813685247)),oj 70 (.ia 5 1 10 67),on_ (.st 1 70 69)]
def r92_21:List J:=[oj 71 (.fa 0 13),oj 72 (.ld 1 false 71),oj 73 (.mv 15),oj 74 (.bin .add 72 73),oj 75 (.bin .shl 74 (cu 13)),oj 76 (.mv 14),oj 77 (.bin .shr 76 (cu 51)),oj 78 (.bin .or 75 77),oj 11 (.mv 78)]
def k92_5:IC:=(.seq (.ops r92_18) (.seq (.ops r92_19) (.seq (.ops r92_20) (.ops r92_21))))
def r92_22:List J:=[oj 79 (.bin .add 56 (ci 1)),oj 56 (.mv 79)]
def l92_3:IC:=(.seq (.ops r92_17) (.seq (.cond 57 .skip (.exit 4)) (.seq (.block 5 k92_5) (.ops r92_22))))
def k92_4:IC:=(.loop l92_3)
def r92_23:List J:=[oj 16 (.al 187 [.ints .u64 2 (List.replicate 2 0)])]
def r92_24:List J:=[oj 80 (.mv 11),oj 81 (.call 157 [16,80,(cu 19)])]
def r92_25:List J:=[oj 83 (.fa 1 16),oj 84 (.ld 1 false 83),oj 85 (.ia 5 1 10 (ci 0)),oj 86 (.ld 1 false 85),oj 87 (.xcall 158 [84,86,(cu 0)]),oj 82 (.mv 87),oj 88 (.ext 82 0),oj 89 (.ext 82 1),oj 17 (.mv 88),oj 18 (.mv 89)]
def r92_26:List J:=[oj 90 (.mv 17),oj 91 (.bin .and 90 (cu 2251799813685247)),oj 92 (.ia 5 1 10 (ci 0)),on_ (.st 1 92 91)]
def r92_27:List J:=[oj 93 (.ia 5 1 10 (ci 1)),oj 94 (.ld 1 false 93),oj 95 (.fa 0 16),oj 96 (.ld 1 false 95),oj 97 (.mv 18),oj 98 (.bin .add 96 97),oj 99 (.bin .shl 98 (cu 13)),oj 100 (.mv 17),oj 101 (.bin .shr 100 (cu 51)),oj 102 (.bin .or 99 101),oj 103 (.bin .add 94 102),oj 104 (.ia 5 1 10 (ci 1)),on_ (.st 1 104 103)]
def r92_28:List J:=[oj 105 (.ld 5 true 10),oj 106 (.call 155 [105]),on_ (.st 5 4 106)]
def d92:FnD:=⟨107,[.cell 4 5 true],(.seq (.ops r92_0) (.seq (.draw r92_1 [4,5]) (.seq (.ops r92_2) (.seq (.seq (.ops r92_3) (.block 0 k92_0)) (.seq (.ops r92_14) (.seq (.ops r92_15) (.seq (.seq (.ops r92_16) (.block 4 k92_4)) (.seq (.ops r92_23) (.seq (.ops r92_24) (.seq (.ops r92_25) (.seq (.ops r92_26) (.seq (.ops r92_27) (.seq (.ops r92_28) .ret)))))))))))))⟩
theorem ok92:okF Tryz.prog 92 d92=true:=by kernel_rfl
def r123_0:List J:=[oj 1 (.bx 80 0),oj 2 (.al 80 [Z5])]
def r123_1:List J:=[oj 3 (.ld 5 true 1),oj 4 (.ld 5 true 1),oj 5 (.call 92 [3,4]),on_ (.st 5 2 5)]
def d123:FnD:=⟨6,[.cell 2 5 true],(.seq (.ops r123_0) (.seq (.ops r123_1) .ret))⟩
theorem ok123:okF Tryz.prog 123 d123=true:=by kernel_rfl
def r188_0:List J:=[oj 2 (.al 80 [Z5])]
def r188_1:List J:=[oj 3 (.mv 0),oj 4 (.bd [Z5] [(0,1,3)]),oj 5 (.call 155 [4]),on_ (.st 5 2 5)]
def d188:FnD:=⟨6,[.cell 2 5 true],(.seq (.ops r188_0) (.seq (.ops r188_1) .ret))⟩
theorem ok188:okF Tryz.prog 188 d188=true:=by kernel_rfl
def r153_0:List J:=[oj 2 (.bx 80 0),oj 3 (.bx 22 1),oj 4 (.al 80 [Z5])]
def r153_1:List J:=[oj 7 (.call 188 [(cu 1)]),oj 5 (.al 80 [Z5]),on_ (.st 5 5 7)]
def r153_2:List J:=[oj 6 (.mv (ci 255))]
def r153_3:List J:=[oj 8 (.mv 6),oj 9 (.bin .geq 8 (ci 0))]
def r153_5:List J:=[oj 12 (.ld 5 true 5),oj 13 (.call 123 [12]),on_ (.st 5 5 13)]
def r153_6:List J:=[oj 14 (.mv 6),oj 15 (.bin .quo 14 (ci 8)),oj 16 (.ia 32 1 3 15),oj 17 (.ld 1 false 16),oj 18 (.mv 6),oj 19 (.bin .rem 18 (ci 8)),oj 20 (.bin .shr 17 19),oj 21 (.bin .and 20 (.const (.int .u8 1))),oj 22 (.bin .eql 21 (.const (.int .u8 1)))]
def r153_7:List J:=[oj 23 (.ld 5 true 5),oj 24 (.ld 5 true 2),oj 25 (.call 92 [23,24]),on_ (.st 5 5 25)]
def k153_1:IC:=(.seq (.ops r153_5) (.seq (.ops r153_6) (.cond 22 (.ops r153_7) .skip)))
def r153_4:List J:=[oj 10 (.mv 6),oj 11 (.bin .sub 10 (ci 1)),oj 6 (.mv 11)]
def l153_1:IC:=(.seq (.seq (.ops r153_3) (.cond 9 .skip (.exit 0))) (.seq (.block 1 k153_1) (.ops r153_4)))
def k153_0:IC:=(.loop l153_1)
def r153_8:List J:=[oj 26 (.ld 5 true 5),on_ (.st 5 4 26)]
def d153:FnD:=⟨27,[.cell 4 5 true],(.seq (.ops r153_0) (.seq (.ops r153_1) (.seq (.seq (.ops r153_2) (.block 0 k153_0)) (.seq (.ops r153_8) .ret))))⟩
theorem ok153:okF Tryz.prog 153 d153=true:=by kernel_rfl
def r154_0:List J:=[oj 4 (.al 22 [.ints .u8 32 (List.replicate 32 0)])]
def r154_1:List J:=[oj 5 (.al 22 [.ints .u8 32 (List.replicate 32 0)])]
def r154_2:List J:=[oj 7 (.mv (ci 0))]
def r154_3:List J:=[oj 8 (.bin .lss 7 (ci 32))]
def r154_4:List J:=[oj 9 (.mv 7),oj 6 (.mv 9)]
def r154_5:List J:=[oj 10 (.mv 6),oj 11 (.ia 32 1 5 10),on_ (.st 1 11 (.const (.int .u8 255)))]
def k154_1:IC:=(.seq (.ops r154_4) (.ops r154_5))
def r154_6:List J:=[oj 12 (.bin .add 7 (ci 1)),oj 7 (.mv 12)]
def l154_1:IC:=(.seq (.ops r154_3) (.seq (.cond 8 .skip (.exit 0)) (.seq (.block 1 k154_1) (.ops r154_6))))
def k154_0:IC:=(.loop l154_1)
def r154_7:List J:=[oj 13 (.mv 0),oj 14 (.mv 1),oj 15 (.ia 32 1 5 (ci 0)),on_ (.st 1 15 13),oj 16 (.ia 32 1 5 (ci 31)),on_ (.st 1 16 14)]
def r154_8:List J:=[oj 17 (.ld 32 true 5),on_ (.st 32 4 17)]
def d154:FnD:=⟨18,[.cell 4 32 true],(.seq (.ops r154_0) (.seq (.ops r154_1) (.seq (.seq (.ops r154_2) (.block 0 k154_0)) (.seq (.ops r154_7) (.seq (.ops r154_8) .ret)))))⟩
theorem ok154:okF Tryz.prog 154 d154=true:=by kernel_rfl
def r90_0:List J:=[oj 1 (.bx 80 0),oj 2 (.al 80 [Z5])]
def r90_1:Sch:=(.p [1] (oj 4 (.call 154 [(.const (.int .u8 235)),(.const (.int .u8 127))])) (.q [0] (oj 3 (.ld 5 true 1)) (.p [2] (oj 5 (.call 153 [3,4])) (.e 3 (oe (.st 5 2 5)) .nil))))
def d90:FnD:=⟨6,[.cell 2 5 true],(.seq (.ops r90_0) (.seq (.draw r90_1 [3]) .ret))⟩
theorem ok90:okF Tryz.prog 90 d90=true:=by kernel_rfl
def r91_0:List J:=[oj 1 (.bx 80 0),oj 2 (.al 22 [.ints .u8 32 (List.replicate 32 0)])]
def r91_1:List J:=[oj 8 (.ld 5 true 1),oj 9 (.call 155 [8]),on_ (.st 5 1 9)]
def r91_2:List J:=[oj 3 (.al 22 [.ints .u8 32 (List.replicate 32 0)])]
def r91_3:List J:=[oj 10 (.mv (ci 0))]
def r91_4:List J:=[oj 11 (.bin .lss 10 (ci 32))]
def r91_5:List J:=[oj 12 (.mv 10),oj 4 (.mv 12)]
def r91_6:List J:=[oj 13 (.mv 4),oj 14 (.bin .mul (ci 8) 13),oj 15 (.bin .quo 14 (ci 51)),oj 16 (.mv 4),oj 17 (.bin .mul (ci 8) 16),oj 18 (.bin .rem 17 (ci 51)),oj 5 (.mv 15),oj 6 (.mv 18)]
def r91_7:List J:=[oj 19 (.mv 5),oj 20 (.ia 5 1 1 19),oj 21 (.ld 1 false 20),oj 22 (.mv 6),oj 23 (.bin .shr 21 22),oj 7 (.mv 23)]
def r91_8:List J:=[oj 24 (.mv 6),oj 25 (.bin .gtr 24 (ci 43)),oj 26 (.mv 25),.lg false 26 29 none [.op ⟨some 27,(some (26,true)),.mv 5⟩,.op ⟨some 28,(some (26,true)),.bin .lss 27 (ci 4)⟩] 28]
def r91_9:List J:=[oj 30 (.mv 7),oj 31 (.mv 5),oj 32 (.bin .add 31 (ci 1)),oj 33 (.ia 5 1 1 32),oj 34 (.ld 1 false 33),oj 35 (.mv 6),oj 36 (.bin .sub (ci 51) 35),oj 37 (.bin .shl 34 36),oj 38 (.bin .or 30 37),oj 7 (.mv 38)]
def r91_10:List J:=[oj 39 (.mv 4),oj 40 (.mv 7),oj 41 (.conv .u8 40),oj 42 (.ia 32 1 3 39),on_ (.st 1 42 41)]
def k91_1:IC:=(.seq (.ops r91_5) (.seq (.ops r91_6) (.seq (.ops r91_7) (.seq (.seq (.ops r91_8) (.cond 29 (.ops r91_9) .skip)) (.ops r91_10)))))
def r91_11:List J:=[oj 43 (.bin .add 10 (ci 1)),oj 10 (.mv 43)]
def l91_1:IC:=(.seq (.ops r91_4) (.seq (.cond 11 .skip (.exit 0)) (.seq (.block 1 k91_1) (.ops r91_11))))
def k91_0:IC:=(.loop l91_1)
def r91_12:List J:=[oj 44 (.ld 32 true 3),on_ (.st 32 2 44)]
def d91:FnD:=⟨45,[.cell 2 32 true],(.seq (.ops r91_0) (.seq (.ops r91_1) (.seq (.ops r91_2) (.seq (.seq (.ops r91_3) (.block 0 k91_0)) (.seq (.ops r91_12) .ret)))))⟩
theorem ok91:okF Tryz.prog 91 d91=true:=by kernel_rfl
def r93_0:List J:=[oj 1 (.bx 80 0),oj 2 (.mv (.const (.bool false)))]
def r93_1:List J:=[oj 3 (.ld 5 true 1),oj 4 (.call 155 [3]),oj 5 (.idx 5 1 false 4 (ci 0)),oj 6 (.bin .and 5 (cu 1)),oj 7 (.bin .eql 6 (cu 1)),oj 2 (.mv 7)]
def d93:FnD:=⟨8,[.tmp 2],(.seq (.ops r93_0) (.seq (.ops r93_1) .ret))⟩
theorem ok93:okF Tryz.prog 93 d93=true:=by kernel_rfl
def r50_0:List J:=[oj 1 (.bx 82 0),oj 2 (.al 29 [.ints .u8 32 (List.replicate 32 0)])]
def r50_1:List J:=[oj 5 (.fa 10 1),oj 6 (.ld 5 true 5),oj 7 (.call 90 [6]),oj 3 (.al 80 [Z5]),on_ (.st 5 3 7)]
def r50_2:List J:=[oj 8 (.fa 5 1),oj 9 (.ld 5 true 8),oj 10 (.ld 5 true 3),oj 11 (.call 92 [9,10]),oj 12 (.call 91 [11]),oj 4 (.al 29 [.ints .u8 32 (List.replicate 32 0)]),on_ (.st 32 4 12)]
def r50_3:List J:=[oj 13 (.fa 0 1),oj 14 (.ld 5 true 13),oj 15 (.ld 5 true 3),oj 16 (.call 92 [14,15]),oj 17 (.call 93 [16])]
def r50_4:List J:=[oj 18 (.ia 32 1 4 (ci 31)),oj 19 (.ld 1 false 18),oj 20 (.bin .or 19 (.const (.int .u8 128))),oj 21 (.ia 32 1 4 (ci 31)),on_ (.st 1 21 20)]
def r50_5:List J:=[oj 22 (.ld 32 true 4),on_ (.st 32 2 22)]
def d50:FnD:=⟨23,[.cell 2 32 true],(.seq (.ops r50_0) (.seq (.ops r50_1) (.seq (.ops r50_2) (.seq (.seq (.ops r50_3) (.cond 17 (.ops r50_4) .skip)) (.seq (.ops r50_5) .ret)))))⟩
theorem ok50:okF Tryz.prog 50 d50=true:=by kernel_rfl
def r124_0:List J:=[oj 0 (.al 80 [Z5])]
def r124_1:List J:=[oj 1 (.bd [Z5] [(0,1,(cu 1))]),on_ (.st 5 0 1)]
def d124:FnD:=⟨2,[.cell 0 5 true],(.seq (.ops r124_0) (.seq (.ops r124_1) .ret))⟩
theorem ok124:okF Tryz.prog 124 d124=true:=by kernel_rfl
def r134_0:List J:=[oj 0 (.al 82 [Z5,Z5,Z5,Z5])]
def r134_1:List J:=[oj 1 (.call 124 []),oj 2 (.call 124 []),oj 3 (.bd [Z5,Z5,Z5,Z5] [(5,5,1),(10,5,2)]),on_ (.st 20 0 3)]
def d134:FnD:=⟨4,[.cell 0 20 true],(.seq (.ops r134_0) (.seq (.ops r134_1) .ret))⟩
theorem ok134:okF Tryz.prog 134 d134=true:=by kernel_rfl
def r127_0:List J:=[oj 2 (.bx 80 0),oj 3 (.bx 80 1),oj 4 (.al 80 [Z5])]
def r127_1:Sch:=(.q [0] (oj 6 (.ld 5 true 2)) (.p [1] (oj 7 (.call 156 [6])) (.q [2] (oj 8 (.ld 5 true 3)) (.p [3] (oj 9 (.call 156 [8])) (.e 4 (oe (.st 5 2 7)) (.e 5 (oe (.st 5 3 9)) .nil))))))
def r127_2:List J:=[oj 10 (.mv (ci 0))]
def r127_3:List J:=[oj 11 (.bin .lss 10 (ci 5))]
def r127_4:List J:=[oj 12 (.mv 10),oj 5 (.mv 12)]
def r127_5:Sch:=(.p [0] (oj 13 (.mv 5)) (.p [1] (oj 14 (.ia 5 1 2 13)) (.p [3] (oj 16 (.mv 5)) (.p [4] (oj 17 (.ia 5 1 3 16)) (.q [2] (oj 15 (.ld 1 false 14)) (.q [5] (oj 18 (.ld 1 false 17)) (.p [6] (oj 19 (.bin .add 15 18)) (.p [7] (oj 20 (.ia 5 1 2 13)) (.e 8 (oe (.st 1 20 19)) .nil)))))))))
def k127_1:IC:=(.seq (.ops r127_4) (.draw r127_5 [8]))
def r127_6:List J:=[oj 21 (.bin .add 10 (ci 1)),oj 10 (.mv 21)]
def l127_1:IC:=(.seq (.ops r127_3) (.seq (.cond 11 .skip (.exit 0)) (.seq (.block 1 k127_1) (.ops r127_6))))
def k127_0:IC:=(.loop l127_1)
def r127_7:List J:=[oj 22 (.ld 5 true 2),oj 23 (.call 155 [22]),on_ (.st 5 4 23)]
def d127:FnD:=⟨24,[.cell 4 5 true],(.seq (.ops r127_0) (.seq (.draw r127_1 [4,5]) (.seq (.seq (.ops r127_2) (.block 0 k127_0)) (.seq (.ops r127_7) .ret))))⟩
theorem ok127:okF Tryz.prog 127 d127=true:=by kernel_rfl
def r130_0:List J:=[oj 1 (.bx 80 0),oj 2 (.al 80 [Z5])]
def r130_1:List J:=[oj 5 (.ld 5 true 1),oj 6 (.call 155 [5]),on_ (.st 5 1 6)]
def r130_2:List J:=[oj 7 (.ia 5 1 1 (ci 0)),oj 8 (.ld 1 false 7),oj 9 (.bin .sub (cu 4503599627370458) 8),oj 10 (.bd [Z5] [(0,1,9)]),oj 3 (.al 80 [Z5]),on_ (.st 5 3 10)]
def r130_3:List J:=[oj 4 (.mv (ci 1))]
def r130_4:List J:=[oj 11 (.mv 4),oj 12 (.bin .lss 11 (ci 5))]
def r130_6:List J:=[oj 15 (.mv 4),oj 16 (.mv 4),oj 17 (.ia 5 1 1 16),oj 18 (.ld 1 false 17),oj 19 (.bin .sub (cu 4503599627370494) 18),oj 20 (.ia 5 1 3 15),on_ (.st 1 20 19)]
def k130_1:IC:=(.ops r130_6)
def r130_5:List J:=[oj 13 (.mv 4),oj 14 (.bin .add 13 (ci 1)),oj 4 (.mv 14)]
def l130_1:IC:=(.seq (.seq (.ops r130_4) (.cond 12 .skip (.exit 0))) (.seq (.block 1 k130_1) (.ops r130_5)))
def k130_0:IC:=(.loop l130_1)
def r130_7:List J:=[oj 21 (.ld 5 true 3),oj 22 (.call 155 [21]),on_ (.st 5 2 22)]
def d130:FnD:=⟨23,[.cell 2 5 true],(.seq (.ops r130_0) (.seq (.ops r130_1) (.seq (.ops r130_2) (.seq (.seq (.ops r130_3) (.block 0 k130_0)) (.seq (.ops r130_7) .ret)))))⟩
theorem ok130:okF Tryz.prog 130 d130=true:=by kernel_rfl
def r126_0:List J:=[oj 2 (.bx 80 0),oj 3 (.bx 80 1),oj 4 (.al 80 [Z5])]
def r126_1:Sch:=(.q [0] (oj 5 (.ld 5 true 2)) (.q [1] (oj 6 (.ld 5 true 3)) (.p [2] (oj 7 (.call 130 [6])) (.p [3] (oj 8 (.call 127 [5,7])) (.e 4 (oe (.st 5 4 8)) .nil)))))
def d126:FnD:=⟨9,[.cell 4 5 true],(.seq (.ops r126_0) (.seq (.draw r126_1 [4]) .ret))⟩
theorem ok126:okF Tryz.prog 126 d126=true:=by kernel_rfl
def r191_0:List J:=[oj 4 (.bx 80 0),oj 5 (.bx 80 1),oj 6 (.bx 80 2),oj 7 (.bx 80 3),oj 8 (.al 82 [Z5,Z5,Z5,Z5])]
def r191_1:Sch:=(.q [0] (oj 9 (.ld 5 true 4)) (.q [1] (oj 10 (.ld 5 true 5)) (.p [2] (oj 11 (.call 92 [9,10])) (.q [3] (oj 12 (.ld 5 true 6)) (.q [4] (oj 13 (.ld 5 true 7)) (.p [5] (oj 14 (.call 92 [12,13])) (.q [6] (oj 15 (.ld 5 true 5)) (.q [7] (oj 16 (.ld 5 true 6)) (.p [8] (oj 17 (.call 92 [15,16])) (.q [9] (oj 18 (.ld 5 true 4)) (.q [10] (oj 19 (.ld 5 true 7)) (.p [11] (oj 20 (.call 92 [18,19])) (.p [12] (oj 21 (.bd [Z5,Z5,Z5,Z5] [(0,5,11),(5,5,14),(10,5,17),(15,5,20)])) (.e 13 (oe (.st 20 8 21)) .nil))))))))))))))
def d191:FnD:=⟨22,[.cell 8 20 true],(.seq (.ops r191_0) (.seq (.draw r191_1 [13]) .ret))⟩
theorem ok191:okF Tryz.prog 191 d191=true:=by kernel_rfl
def r192_0:List J:=[oj 0 (.al 80 [Z5])]
def r192_1:List J:=[oj 1 (.bd [Z5] [(0,1,(cu 1859910466990425)),(1,1,(cu 932731440258426)),(2,1,(cu 1072319116312658)),(3,1,(cu 1815898335770999)),(4,1,(cu 633789495995903))]),on_ (.st 5 0 1)]
def d192:FnD:=⟨2,[.cell 0 5 true],(.seq (.ops r192_0) (.seq (.ops r192_1) .ret))⟩
theorem ok192:okF Tryz.prog 192 d192=true:=by kernel_rfl
def r136_0:List J:=[oj 2 (.bx 82 0),oj 3 (.bx 82 1),oj 4 (.al 82 [Z5,Z5,Z5,Z5])]
def r136_1:Sch:=(.p [0] (oj 10 (.fa 5 2)) (.p [2] (oj 12 (.fa 0 2)) (.p [5] (oj 15 (.fa 5 3)) (.p [7] (oj 17 (.fa 0 3)) (.q [1] (oj 11 (.ld 5 true 10)) (.q [3] (oj 13 (.ld 5 true 12)) (.p [4] (oj 14 (.call 126 [11,13])) (.q [6] (oj 16 (.ld 5 true 15)) (.q [8] (oj 18 (.ld 5 true 17)) (.p [9] (oj 19 (.call 126 [16,18])) (.p [10] (oj 20 (.call 92 [14,19])) (.e 11 (oi 5 (.al 80 [Z5])) (.e 12 (oe (.st 5 5 20)) .nil)))))))))))))
def r136_2:Sch:=(.p [0] (oj 21 (.fa 5 2)) (.p [2] (oj 23 (.fa 0 2)) (.p [5] (oj 26 (.fa 5 3)) (.p [7] (oj 28 (.fa 0 3)) (.q [1] (oj 22 (.ld 5 true 21)) (.q [3] (oj 24 (.ld 5 true 23)) (.p [4] (oj 25 (.call 127 [22,24])) (.q [6] (oj 27 (.ld 5 true 26)) (.q [8] (oj 29 (.ld 5 true 28)) (.p [9] (oj 30 (.call 127 [27,29])) (.p [10] (oj 31 (.call 92 [25,30])) (.e 11 (oi 6 (.al 80 [Z5])) (.e 12 (oe (.st 5 6 31)) .nil)))))))))))))
def r136_3:List J:=[oj 32 (.call 192 []),oj 7 (.al 80 [Z5]),on_ (.st 5 7 32)]
def r136_4:Sch:=(.p [0] (oj 33 (.fa 15 2)) (.p [4] (oj 37 (.fa 15 3)) (.q [1] (oj 34 (.ld 5 true 33)) (.q [2] (oj 35 (.ld 5 true 7)) (.p [3] (oj 36 (.call 92 [34,35])) (.q [5] (oj 38 (.ld 5 true 37)) (.p [6] (oj 39 (.call 92 [36,38])) (.e 7 (oi 8 (.al 80 [Z5])) (.e 8 (oe (.st 5 8 39)) .nil)))))))))
def r136_5:Sch:=(.p [0] (oj 40 (.fa 10 2)) (.p [2] (oj 42 (.fa 10 2)) (.p [5] (oj 45 (.fa 10 3)) (.q [1] (oj 41 (.ld 5 true 40)) (.q [3] (oj 43 (.ld 5 true 42)) (.p [4] (oj 44 (.call 127 [41,43])) (.q [6] (oj 46 (.ld 5 true 45)) (.p [7] (oj 47 (.call 92 [44,46])) (.e 8 (oi 9 (.al 80 [Z5])) (.e 9 (oe (.st 5 9 47)) .nil))))))))))
def r136_6:Sch:=(.q [0] (oj 48 (.ld 5 true 6)) (.q [1] (oj 49 (.ld 5 true 5)) (.p [2] (oj 50 (.call 126 [48,49])) (.q [3] (oj 51 (.ld 5 true 9)) (.q [4] (oj 52 (.ld 5 true 8)) (.p [5] (oj 53 (.call 126 [51,52])) (.q [6] (oj 54 (.ld 5 true 9)) (.q [7] (oj 55 (.ld 5 true 8)) (.p [8] (oj 56 (.call 127 [54,55])) (.q [9] (oj 57 (.ld 5 true 6)) (.q [10] (oj 58 (.ld 5 true 5)) (.p [11] (oj 59 (.call 127 [57,58])) (.p [12] (oj 60 (.call 191 [50,53,56,59])) (.e 13 (oe (.st 20 4 60)) .nil))))))))))))))
def d136:FnD:=⟨61,[.cell 4 20 true],(.seq (.ops r136_0) (.seq (.draw r136_1 [12]) (.seq (.draw r136_2 [12]) (.seq (.ops r136_3) (.seq (.draw r136_4 [8]) (.seq (.draw r136_5 [9]) (.seq (.draw r136_6 [13]) .ret)))))))⟩
theorem ok136:okF Tryz.prog 136 d136=true:=by kernel_rfl
def r133_0:List J:=[oj 1 (.bx 82 0),oj 2 (.al 166 [.rows 20 16 (fun _=>cells [Z5,Z5,Z5,Z5])])]
def r133_1:List J:=[oj 3 (.al 166 [.rows 20 16 (fun _=>cells [Z5,Z5,Z5,Z5])])]
def r133_2:List J:=[oj 5 (.call 134 []),oj 6 (.ia 16 20 3 (ci 0)),on_ (.st 20 6 5)]
def r133_3:List J:=[oj 7 (.mv (ci 0))]
def r133_4:List J:=[oj 8 (.bin .lss 7 (ci 15))]
def r133_5:List J:=[oj 9 (.mv 7),oj 4 (.mv 9)]
def r133_6:Sch:=(.p [0] (oj 10 (.mv 4)) (.p [1] (oj 11 (.bin .add 10 (ci 1))) (.p [2] (oj 12 (.mv 4)) (.p [3] (oj 13 (.ia 16 20 3 12)) (.q [4] (oj 14 (.ld 20 true 13)) (.q [5] (oj 15 (.ld 20 true 1)) (.p [6] (oj 16 (.call 136 [14,15])) (.p [7] (oj 17 (.ia 16 20 3 11)) (.e 8 (oe (.st 20 17 16)) .nil)))))))))
def k133_1:IC:=(.seq (.ops r133_5) (.draw r133_6 [8]))
def r133_7:List J:=[oj 18 (.bin .add 7 (ci 1)),oj 7 (.mv 18)]
def l133_1:IC:=(.seq (.ops r133_4) (.seq (.cond 8 .skip (.exit 0)) (.seq (.block 1 k133_1) (.ops r133_7))))
def k133_0:IC:=(.loop l133_1)
def r133_8:List J:=[oj 19 (.ld 320 true 3),on_ (.st 320 2 19)]
def d133:FnD:=⟨20,[.cell 2 320 true],(.seq (.ops r133_0) (.seq (.ops r133_1) (.seq (.ops r133_2) (.seq (.seq (.ops r133_3) (.block 0 k133_0)) (.seq (.ops r133_8) .ret)))))⟩
theorem ok133:okF Tryz.prog 133 d133=true:=by kernel_rfl
def r135_0:List J:=[oj 1 (.bx 82 0),oj 2 (.al 82 [Z5,Z5,Z5,Z5])]
def r135_1:List J:=[oj 10 (.fa 0 1),oj 11 (.ld 5 true 10),oj 12 (.call 123 [11]),oj 3 (.al 80 [Z5]),on_ (.st 5 3 12)]
def r135_2:List J:=[oj 13 (.fa 5 1),oj 14 (.ld 5 true 13),oj 15 (.call 123 [14]),oj 4 (.al 80 [Z5]),on_ (.st 5 4 15)]
def r135_3:List J:=[oj 16 (.fa 10 1),oj 17 (.ld 5 true 16),oj 18 (.call 123 [17]),oj 5 (.al 80 [Z5]),on_ (.st 5 5 18)]
def r135_4:List J:=[oj 19 (.ld 5 true 3),oj 20 (.ld 5 true 4),oj 21 (.call 127 [19,20]),oj 6 (.al 80 [Z5]),on_ (.st 5 6 21)]
def r135_5:Sch:=(.p [1] (oj 23 (.fa 0 1)) (.p [3] (oj 25 (.fa 5 1)) (.q [0] (oj 22 (.ld 5 true 6)) (.q [2] (oj 24 (.ld 5 true 23)) (.q [4] (oj 26 (.ld 5 true 25)) (.p [5] (oj 27 (.call 127 [24,26])) (.p [6] (oj 28 (.call 123 [27])) (.p [7] (oj 29 (.call 126 [22,28])) (.e 8 (oi 7 (.al 80 [Z5])) (.e 9 (oe (.st 5 7 29)) .nil))))))))))
def r135_6:List J:=[oj 30 (.ld 5 true 3),oj 31 (.ld 5 true 4),oj 32 (.call 126 [30,31]),oj 8 (.al 80 [Z5]),on_ (.st 5 8 32)]
def r135_7:Sch:=(.q [0] (oj 33 (.ld 5 true 5)) (.q [1] (oj 34 (.ld 5 true 5)) (.p [2] (oj 35 (.call 127 [33,34])) (.q [3] (oj 36 (.ld 5 true 8)) (.p [4] (oj 37 (.call 127 [35,36])) (.e 5 (oi 9 (.al 80 [Z5])) (.e 6 (oe (.st 5 9 37)) .nil)))))))
def r135_8:List J:=[oj 38 (.ld 5 true 7),oj 39 (.ld 5 true 9),oj 40 (.ld 5 true 8),oj 41 (.ld 5 true 6),oj 42 (.call 191 [38,39,40,41]),on_ (.st 20 2 42)]
def d135:FnD:=⟨43,[.cell 2 20 true],(.seq (.ops r135_0) (.seq (.ops r135_1) (.seq (.ops r135_2) (.seq (.ops r135_3) (.seq (.ops r135_4) (.seq (.draw r135_5 [9]) (.seq (.ops r135_6) (.seq (.draw r135_7 [6]) (.seq (.ops r135_8) .ret)))))))))⟩
theorem ok135:okF Tryz.prog 135 d135=true:=by kernel_rfl
def r137_0:List J:=[oj 2 (.bx 74 0),oj 4 (.mv (.const (.int .u8 0)))]
def r137_1:List J:=[oj 5 (.mv 1),oj 6 (.bin .quo 5 (ci 2)),oj 7 (.bin .sub (ci 31) 6),oj 8 (.ia 32 1 2 7),oj 9 (.ld 1 false 8),oj 10 (.mv 1),oj 11 (.bin .rem 10 (ci 2)),oj 12 (.bin .sub (ci 1) 11),oj 13 (.bin .mul (ci 4) 12),oj 14 (.bin .shr 9 13),oj 15 (.bin .and 14 (.const (.int .u8 15))),oj 4 (.mv 15)]
def d137:FnD:=⟨16,[.tmp 4],(.seq (.ops r137_0) (.seq (.ops r137_1) .ret))⟩
theorem ok137:okF Tryz.prog 137 d137=true:=by kernel_rfl
def r94_0:List J:=[oj 2 (.bx 74 0),oj 3 (.bx 82 1),oj 4 (.al 82 [Z5,Z5,Z5,Z5])]
def r94_1:List J:=[oj 8 (.ld 20 true 3),oj 9 (.call 133 [8]),oj 5 (.al 166 [.rows 20 16 (fun _=>cells [Z5,Z5,Z5,Z5])]),on_ (.st 320 5 9)]
def r94_2:List J:=[oj 10 (.call 134 []),oj 6 (.al 82 [Z5,Z5,Z5,Z5]),on_ (.st 20 6 10)]
def r94_3:List J:=[oj 11 (.mv (ci 0))]
def r94_4:List J:=[oj 12 (.bin .lss 11 (ci 64))]
def r94_5:List J:=[oj 13 (.mv 11),oj 7 (.mv 13)]
def r94_6:List J:=[oj 14 (.mv (ci 0))]
def r94_7:List J:=[oj 15 (.bin .lss 14 (ci 4))]
def r94_8:List J:=[oj 16 (.ld 20 true 6),oj 17 (.call 135 [16]),on_ (.st 20 6 17)]
def k94_3:IC:=(.ops r94_8)
def r94_9:List J:=[oj 18 (.bin .add 14 (ci 1)),oj 14 (.mv 18)]
def l94_2:IC:=(.seq (.ops r94_7) (.seq (.cond 15 .skip (.exit 2)) (.seq (.block 3 k94_3) (.ops r94_9))))
def k94_2:IC:=(.loop l94_2)
def r94_10:Sch:=(.p [2] (oj 21 (.mv 7)) (.q [0] (oj 19 (.ld 20 true 6)) (.q [1] (oj 20 (.ld 32 true 2)) (.p [3] (oj 22 (.call 137 [20,21])) (.p [4] (oj 23 (.ia 16 20 5 22)) (.q [5] (oj 24 (.ld 20 true 23)) (.p [6] (oj 25 (.call 136 [19,24])) (.e 7 (oe (.st 20 6 25)) .nil))))))))
def k94_1:IC:=(.seq (.ops r94_5) (.seq (.seq (.ops r94_6) (.block 2 k94_2)) (.draw r94_10 [7])))
def r94_11:List J:=[oj 26 (.bin .add 11 (ci 1)),oj 11 (.mv 26)]
def l94_1:IC:=(.seq (.ops r94_4) (.seq (.cond 12 .skip (.exit 0)) (.seq (.block 1 k94_1) (.ops r94_11))))
def k94_0:IC:=(.loop l94_1)
def r94_12:List J:=[oj 27 (.ld 20 true 6),on_ (.st 20 4 27)]
def d94:FnD:=⟨28,[.cell 4 20 true],(.seq (.ops r94_0) (.seq (.ops r94_1) (.seq (.ops r94_2) (.seq (.seq (.ops r94_3) (.block 0 k94_0)) (.seq (.ops r94_12) .ret)))))⟩
theorem ok94:okF Tryz.prog 94 d94=true:=by kernel_rfl
def r122_0:List J:=[oj 1 (.bx 22 0),oj 2 (.al 80 [Z5])]
def r122_1:List J:=[oj 3 (.al 80 [Z5])]
def r122_2:List J:=[oj 8 (.ld 32 true 1),oj 9 (.mv (ci 0))]
def r122_3:List J:=[oj 10 (.bin .lss 9 (ci 32))]
def r122_4:List J:=[oj 11 (.mv 9),oj 12 (.idx 32 1 false 8 9),oj 4 (.mv 11),oj 5 (.mv 12)]
def r122_5:List J:=[oj 13 (.mv 4),oj 14 (.bin .eql 13 (ci 31))]
def r122_6:List J:=[oj 15 (.mv 5),oj 16 (.bin .and 15 (.const (.int .u8 127))),oj 5 (.mv 16)]
def r122_7:List J:=[oj 17 (.mv 4),oj 18 (.bin .mul (ci 8) 17),oj 19 (.bin .quo 18 (ci 51)),oj 20 (.mv 4),oj 21 (.bin .mul (ci 8) 20),oj 22 (.bin .rem 21 (ci 51)),oj 6 (.mv 19),oj 7 (.mv 22)]
def r122_8:Sch:=(.p [0] (oj 23 (.mv 6)) (.p [1] (oj 24 (.ia 5 1 3 23)) (.p [3] (oj 26 (.mv 5)) (.p [4] (oj 27 (.conv .u64 26)) (.p [5] (oj 28 (.mv 7)) (.p [6] (oj 29 (.bin .shl 27 28)) (.p [7] (oj 30 (.bin .and 29 (cu 2251799813685247))) (.q [2] (oj 25 (.ld 1 false 24)) (.p [8] (oj 31 (.bin .or 25 30)) (.p [9] (oj 32 (.ia 5 1 3 23)) (.e 10 (oe (.st 1 32 31)) .nil)))))))))))
def r122_9:List J:=[oj 33 (.mv 7),oj 34 (.bin .gtr 33 (ci 43)),oj 35 (.mv 34),.lg false 35 38 none [.op ⟨some 36,(some (35,true)),.mv 6⟩,.op ⟨some 37,(some (35,true)),.bin .lss 36 (ci 4)⟩] 37]
def r122_10:Sch:=(.p [0] (oj 39 (.mv 6)) (.p [1] (oj 40 (.bin .add 39 (ci 1))) (.p [2] (oj 41 (.ia 5 1 3 40)) (.p [4] (oj 43 (.mv 5)) (.p [5] (oj 44 (.conv .u64 43)) (.p [6] (oj 45 (.mv 7)) (.p [7] (oj 46 (.bin .sub (ci 51) 45)) (.p [8] (oj 47 (.bin .shr 44 46)) (.q [3] (oj 42 (.ld 1 false 41)) (.p [9] (oj 48 (.bin .or 42 47)) (.p [10] (oj 49 (.ia 5 1 3 40)) (.e 11 (oe (.st 1 49 48)) .nil))))))))))))
def k122_1:IC:=(.seq (.ops r122_4) (.seq (.seq (.ops r122_5) (.cond 14 (.ops r122_6) .skip)) (.seq (.ops r122_7) (.seq (.draw r122_8 [10]) (.seq (.ops r122_9) (.cond 38 (.draw r122_10 [11]) .skip))))))
def r122_11:List J:=[oj 50 (.bin .add 9 (ci 1)),oj 9 (.mv 50)]
def l122_1:IC:=(.seq (.ops r122_3) (.seq (.cond 10 .skip (.exit 0)) (.seq (.block 1 k122_1) (.ops r122_11))))
def k122_0:IC:=(.loop l122_1)
def r122_12:List J:=[oj 51 (.ld 5 true 3),oj 52 (.call 155 [51]),on_ (.st 5 2 52)]
def d122:FnD:=⟨53,[.cell 2 5 true],(.seq (.ops r122_0) (.seq (.ops r122_1) (.seq (.seq (.ops r122_2) (.block 0 k122_0)) (.seq (.ops r122_12) .ret))))⟩
theorem ok122:okF Tryz.prog 122 d122=true:=by kernel_rfl
def r95_0:List J:=[oj 0 (.al 82 [Z5,Z5,Z5,Z5])]
def r95_1:List J:=[oj 5 (.bd [.ints .u8 32 (List.replicate 32 0)] [(0,1,(.const (.int .u8 26))),(1,1,(.const (.int .u8 213))),(2,1,(.const (.int .u8 37))),(3,1,(.const (.int .u8 143))),(4,1,(.const (.int .u8 96))),(5,1,(.const (.int .u8 45))),(6,1,(.const (.int .u8 86))),(7,1,(.const (.int .u8 201))),(8,1,(.const (.int .u8 178))),(9,1,(.const (.int .u8 167))),(10,1,(.const (.int .u8 37))),(11,1,(.const (.int .u8 149))),(12,1,(.const (.int .u8 96))),(13,1,(.const (.int .u8 199))),(14,1,(.const (.int .u8 44))),(15,1,(.const (.int .u8 105))),(16,1,(.const (.int .u8 92))),(17,1,(.const (.int .u8 220))),(18,1,(.const (.int .u8 214))),(19,1,(.const (.int .u8 253))),(20,1,(.const (.int .u8 49))),(21,1,(.const (.int .u8 226))),(22,1,(.const (.int .u8 164))),(23,1,(.const (.int .u8 192))),(24,1,(.const (.int .u8 254))),(25,1,(.const (.int .u8 83))),(26,1,(.const (.int .u8 110))),(27,1,(.const (.int .u8 205))),(28,1,(.const (.int .u8 211))),(29,1,(.const (.int .u8 54))),(30,1,(.const (.int .u8 105))),(31,1,(.const (.int .u8 33)))]),oj 6 (.call 122 [5]),oj 1 (.al 80 [Z5]),on_ (.st 5 1 6)]
def r95_2:List J:=[oj 7 (.bd [.ints .u8 32 (List.replicate 32 0)] [(0,1,(.const (.int .u8 88)))]),oj 2 (.al 22 [.ints .u8 32 (List.replicate 32 0)]),on_ (.st 32 2 7)]
def r95_3:List J:=[oj 8 (.mv (ci 0))]
def r95_4:List J:=[oj 9 (.bin .lss 8 (ci 31))]
def r95_5:List J:=[oj 10 (.mv 8),oj 3 (.mv 10)]
def r95_6:List J:=[oj 11 (.mv 3),oj 12 (.bin .add 11 (ci 1)),oj 13 (.ia 32 1 2 12),on_ (.st 1 13 (.const (.int .u8 102)))]
def k95_1:IC:=(.seq (.ops r95_5) (.ops r95_6))
def r95_7:List J:=[oj 14 (.bin .add 8 (ci 1)),oj 8 (.mv 14)]
def l95_1:IC:=(.seq (.ops r95_4) (.seq (.cond 9 .skip (.exit 0)) (.seq (.block 1 k95_1) (.ops r95_7))))
def k95_0:IC:=(.loop l95_1)
def r95_8:List J:=[oj 15 (.ld 32 true 2),oj 16 (.call 122 [15]),oj 4 (.al 80 [Z5]),on_ (.st 5 4 16)]
def r95_9:Sch:=(.p [2] (oj 19 (.call 124 [])) (.q [0] (oj 17 (.ld 5 true 1)) (.q [1] (oj 18 (.ld 5 true 4)) (.q [3] (oj 20 (.ld 5 true 1)) (.q [4] (oj 21 (.ld 5 true 4)) (.p [5] (oj 22 (.call 92 [20,21])) (.p [6] (oj 23 (.bd [Z5,Z5,Z5,Z5] [(0,5,17),(5,5,18),(10,5,19),(15,5,22)])) (.e 7 (oe (.st 20 0 23)) .nil))))))))
def d95:FnD:=⟨24,[.cell 0 20 true],(.seq (.ops r95_0) (.seq (.ops r95_1) (.seq (.ops r95_2) (.seq (.seq (.ops r95_3) (.block 0 k95_0)) (.seq (.ops r95_8) (.seq (.draw r95_9 [7]) .ret))))))⟩
theorem ok95:okF Tryz.prog 95 d95=true:=by kernel_rfl
def r51_0:List J:=[oj 1 (.bx 74 0),oj 2 (.al 82 [Z5,Z5,Z5,Z5])]
def r51_1:Sch:=(.p [1] (oj 4 (.call 95 [])) (.q [0] (oj 3 (.ld 32 true 1)) (.p [2] (oj 5 (.call 94 [3,4])) (.e 3 (oe (.st 20 2 5)) .nil))))
def d51:FnD:=⟨6,[.cell 2 20 true],(.seq (.ops r51_0) (.seq (.draw r51_1 [3]) .ret))⟩
theorem ok51:okF Tryz.prog 51 d51=true:=by kernel_rfl
def r160_0:List J:=[oj 4 (.mv (cu 0)),oj 5 (.mv (.const (.bool false)))]
def r160_1:List J:=[oj 6 (.mv (cu 0))]
def r160_2:List J:=[oj 10 (.mv 0),oj 11 (.mv 1),oj 12 (.call 203 [10,11]),oj 7 (.mv 12)]
def r160_3:List J:=[oj 13 (.mv 7),oj 14 (.len 13),oj 15 (.mv (ci 0))]
def r160_4:List J:=[oj 16 (.bin .lss 15 14)]
def r160_5:List J:=[oj 17 (.mv 15),oj 18 (.ias 1 13 15),oj 19 (.ld 1 false 18),oj 8 (.mv 17),oj 9 (.mv 19)]
def r160_6:List J:=[oj 20 (.mv 6),oj 21 (.mv 9),oj 22 (.conv .u64 21),oj 23 (.mv 8),oj 24 (.bin .mul (ci 8) 23),oj 25 (.bin .shl 22 24),oj 26 (.bin .or 20 25),oj 6 (.mv 26)]
def k160_1:IC:=(.seq (.ops r160_5) (.ops r160_6))
def r160_7:List J:=[oj 27 (.bin .add 15 (ci 1)),oj 15 (.mv 27)]
def l160_1:IC:=(.seq (.ops r160_4) (.seq (.cond 16 .skip (.exit 0)) (.seq (.block 1 k160_1) (.ops r160_7))))
def k160_0:IC:=(.loop l160_1)
def r160_8:List J:=[oj 28 (.mv 6),oj 29 (.mv 7),oj 30 (.isn true 29),oj 4 (.mv 28),oj 5 (.mv 30)]
def d160:FnD:=⟨31,[.tmp 4,.tmp 5],(.seq (.ops r160_0) (.seq (.ops r160_1) (.seq (.ops r160_2) (.seq (.seq (.ops r160_3) (.block 0 k160_0)) (.seq (.ops r160_8) .ret)))))⟩
theorem ok160:okF Tryz.prog 160 d160=true:=by kernel_rfl
def r204_0:List J:=[oj 2 (.mv (.const (.slice none 0 0)))]
def r204_1:List J:=[oj 5 (.call 183 []),oj 6 (.bin .quo 5 (ci 8)),oj 7 (.mks 5 1 [.one (.int .u8 0)] 6 6),oj 3 (.mv 7)]
def r204_2:List J:=[oj 8 (.mv 3),oj 9 (.len 8),oj 10 (.mv (ci 0))]
def r204_3:List J:=[oj 11 (.bin .lss 10 9)]
def r204_4:List J:=[oj 12 (.mv 10),oj 4 (.mv 12)]
def r204_5:List J:=[oj 13 (.mv 3),oj 14 (.mv 4),oj 15 (.mv 0),oj 16 (.conv .u8 15),oj 17 (.ias 1 13 14),on_ (.st 1 17 16)]
def r204_6:List J:=[oj 18 (.mv 0),oj 19 (.bin .shr 18 (cu 8)),oj 0 (.mv 19)]
def k204_1:IC:=(.seq (.ops r204_4) (.seq (.ops r204_5) (.ops r204_6)))
def r204_7:List J:=[oj 20 (.bin .add 10 (ci 1)),oj 10 (.mv 20)]
def l204_1:IC:=(.seq (.ops r204_3) (.seq (.cond 11 .skip (.exit 0)) (.seq (.block 1 k204_1) (.ops r204_7))))
def k204_0:IC:=(.loop l204_1)
def r204_8:List J:=[oj 21 (.mv 3),oj 2 (.mv 21)]
def d204:FnD:=⟨22,[.tmp 2],(.seq (.ops r204_0) (.seq (.ops r204_1) (.seq (.seq (.ops r204_2) (.block 0 k204_0)) (.seq (.ops r204_8) .ret))))⟩
theorem ok204:okF Tryz.prog 204 d204=true:=by kernel_rfl
def r161_0:List J:=[oj 1 (.bx 162 0),oj 2 (.al 74 [.ints .u8 32 (List.replicate 32 0)])]
def r161_1:List J:=[oj 3 (.al 74 [.ints .u8 32 (List.replicate 32 0)])]
def r161_2:List J:=[oj 6 (.ld 4 true 1),oj 7 (.mv (ci 0))]
def r161_3:List J:=[oj 8 (.bin .lss 7 (ci 4))]
def r161_4:List J:=[oj 9 (.mv 7),oj 10 (.idx 4 1 false 6 7),oj 4 (.mv 9),oj 5 (.mv 10)]
def r161_5:Sch:=(.p [0] (oj 11 (.mv 4)) (.p [1] (oj 12 (.bin .mul (ci 8) 11)) (.p [2] (oj 13 (.sla 32 1 3 (some 12) none none)) (.p [3] (oj 14 (.mv 5)) (.e 4 (oi 15 (.call 204 [14])) (.e 5 (oi 16 (.cpy 1 13 15)) .nil))))))
def k161_1:IC:=(.seq (.ops r161_4) (.draw r161_5 [5]))
def r161_6:List J:=[oj 17 (.bin .add 7 (ci 1)),oj 7 (.mv 17)]
def l161_1:IC:=(.seq (.ops r161_3) (.seq (.cond 8 .skip (.exit 0)) (.seq (.block 1 k161_1) (.ops r161_6))))
def k161_0:IC:=(.loop l161_1)
def r161_7:List J:=[oj 18 (.ld 32 true 3),on_ (.st 32 2 18)]
def d161:FnD:=⟨19,[.cell 2 32 true],(.seq (.ops r161_0) (.seq (.ops r161_1) (.seq (.seq (.ops r161_2) (.block 0 k161_0)) (.seq (.ops r161_7) .ret))))⟩
theorem ok161:okF Tryz.prog 161 d161=true:=by kernel_rfl
def r131_0:List J:=[oj 2 (.bx 162 0),oj 3 (.bx 162 1),oj 4 (.al 162 [.ints .u64 4 (List.replicate 4 0)]),oj 5 (.mv (cu 0))]
def r131_1:List J:=[oj 6 (.mv (cu 0))]
def r131_2:List J:=[oj 8 (.mv (ci 0))]
def r131_3:List J:=[oj 9 (.bin .lss 8 (ci 4))]
def r131_4:List J:=[oj 10 (.mv 8),oj 7 (.mv 10)]
def r131_5:Sch:=(.p [0] (oj 12 (.mv 7)) (.p [1] (oj 13 (.mv 7)) (.p [2] (oj 14 (.ia 4 1 2 13)) (.p [4] (oj 16 (.mv 7)) (.p [5] (oj 17 (.ia 4 1 3 16)) (.p [7] (oj 19 (.mv 6)) (.q [3] (oj 15 (.ld 1 false 14)) (.q [6] (oj 18 (.ld 1 false 17)) (.p [8] (oj 20 (.xcall 190 [15,18,19])) (.p [9] (oj 11 (.mv 20)) (.p [10] (oj 21 (.ext 11 0)) (.p [11] (oj 22 (.ext 11 1)) (.p [12] (oj 23 (.ia 4 1 2 12)) (.e 13 (oe (.st 1 23 21)) (.p [14] (oj 6 (.mv 22)) .nil)))))))))))))))
def k131_1:IC:=(.seq (.ops r131_4) (.draw r131_5 [13]))
def r131_6:List J:=[oj 24 (.bin .add 8 (ci 1)),oj 8 (.mv 24)]
def l131_1:IC:=(.seq (.ops r131_3) (.seq (.cond 9 .skip (.exit 0)) (.seq (.block 1 k131_1) (.ops r131_6))))
def k131_0:IC:=(.loop l131_1)
def r131_7:List J:=[oj 25 (.ld 4 true 2),oj 26 (.mv 6),on_ (.st 4 4 25),oj 5 (.mv 26)]
def d131:FnD:=⟨27,[.cell 4 4 true,.tmp 5],(.seq (.ops r131_0) (.seq (.ops r131_1) (.seq (.seq (.ops r131_2) (.block 0 k131_0)) (.seq (.ops r131_7) .ret))))⟩
theorem ok131:okF Tryz.prog 131 d131=true:=by kernel_rfl
def r165_0:List J:=[oj 2 (.bx 162 0),oj 3 (.bx 162 1),oj 4 (.al 162 [.ints .u64 4 (List.replicate 4 0)]),oj 5 (.mv (cu 0))]
def r165_1:List J:=[oj 6 (.mv (cu 0))]
def r165_2:List J:=[oj 8 (.mv (ci 0))]
def r165_3:List J:=[oj 9 (.bin .lss 8 (ci 4))]
def r165_4:List J:=[oj 10 (.mv 8),oj 7 (.mv 10)]
def r165_5:Sch:=(.p [0] (oj 12 (.mv 7)) (.p [1] (oj 13 (.mv 7)) (.p [2] (oj 14 (.ia 4 1 2 13)) (.p [4] (oj 16 (.mv 7)) (.p [5] (oj 17 (.ia 4 1 3 16)) (.p [7] (oj 19 (.mv 6)) (.q [3] (oj 15 (.ld 1 false 14)) (.q [6] (oj 18 (.ld 1 false 17)) (.p [8] (oj 20 (.xcall 158 [15,18,19])) (.p [9] (oj 11 (.mv 20)) (.p [10] (oj 21 (.ext 11 0)) (.p [11] (oj 22 (.ext 11 1)) (.p [12] (oj 23 (.ia 4 1 2 12)) (.e 13 (oe (.st 1 23 21)) (.p [14] (oj 6 (.mv 22)) .nil)))))))))))))))
def k165_1:IC:=(.seq (.ops r165_4) (.draw r165_5 [13]))
def r165_6:List J:=[oj 24 (.bin .add 8 (ci 1)),oj 8 (.mv 24)]
def l165_1:IC:=(.seq (.ops r165_3) (.seq (.cond 9 .skip (.exit 0)) (.seq (.block 1 k165_1) (.ops r165_6))))
def k165_0:IC:=(.loop l165_1)
def r165_7:List J:=[oj 25 (.ld 4 true 2),oj 26 (.mv 6),on_ (.st 4 4 25),oj 5 (.mv 26)]
def d165:FnD:=⟨27,[.cell 4 4 true,.tmp 5],(.seq (.ops r165_0) (.seq (.ops r165_1) (.seq (.seq (.ops r165_2) (.block 0 k165_0)) (.seq (.ops r165_7) .ret))))⟩
theorem ok165:okF Tryz.prog 165 d165=true:=by kernel_rfl
def r167_0:List J:=[oj 1 (.bx 162 0),oj 2 (.al 162 [.ints .u64 4 (List.replicate 4 0)])]
def r167_1:List J:=[oj 3 (.mv (ci 3))]
def r167_2:List J:=[oj 4 (.mv 3),oj 5 (.bin .geq 4 (ci 0))]
def r167_4:Sch:=(.p [0] (oj 8 (.mv 3)) (.p [1] (oj 9 (.ia 4 1 1 8)) (.p [3] (oj 11 (.mv 3)) (.p [4] (oj 12 (.ia 4 1 (.global 1) 11)) (.q [2] (oj 10 (.ld 1 false 9)) (.q [5] (oj 13 (.ld 1 false 12)) (.p [6] (oj 14 (.bin .lss 10 13)) .nil)))))))
def r167_5:Sch:=(.p [0] (oj 15 (.mv 3)) (.p [1] (oj 16 (.ia 4 1 1 15)) (.p [3] (oj 18 (.mv 3)) (.p [4] (oj 19 (.ia 4 1 (.global 1) 18)) (.q [2] (oj 17 (.ld 1 false 16)) (.q [5] (oj 20 (.ld 1 false 19)) (.p [6] (oj 21 (.bin .gtr 17 20)) .nil)))))))
def k167_3:IC:=(.seq (.seq (.draw r167_4 []) (.cond 14 (.exit 0) .skip)) (.seq (.draw r167_5 []) (.cond 21 (.exit 2) .skip)))
def r167_3:List J:=[oj 6 (.mv 3),oj 7 (.bin .sub 6 (ci 1)),oj 3 (.mv 7)]
def l167_2:IC:=(.seq (.seq (.ops r167_2) (.cond 5 .skip (.exit 2))) (.seq (.block 3 k167_3) (.ops r167_3)))
def k167_2:IC:=(.loop l167_2)
def r167_6:List J:=[oj 23 (.ld 4 true 1),oj 24 (.ld 4 true (.global 1)),oj 25 (.call 131 [23,24]),oj 22 (.mv 25),oj 26 (.ext 22 0),oj 27 (.ext 22 1),on_ (.st 4 1 26)]
def k167_1:IC:=(.seq (.seq (.ops r167_1) (.block 2 k167_2)) (.ops r167_6))
def l167_1:IC:=(.block 1 k167_1)
def k167_0:IC:=(.loop l167_1)
def r167_7:List J:=[oj 28 (.ld 4 true 1),on_ (.st 4 2 28)]
def d167:FnD:=⟨29,[.cell 2 4 true],(.seq (.ops r167_0) (.scope (.seq .lbl (.seq (.block 0 k167_0) (.seq (.ops r167_7) .ret)))))⟩
theorem ok167:okF Tryz.prog 167 d167=true:=by kernel_rfl
def r168_0:List J:=[oj 4 (.mv (.const (.slice none 0 0)))]
def r168_1:List J:=[oj 14 (.mv 0),oj 15 (.len 14),oj 16 (.mv 1),oj 17 (.len 16),oj 18 (.bin .add 15 17),oj 19 (.mks 78 8 [.one (.int .u64 0)] 18 18),oj 5 (.mv 19)]
def r168_2:List J:=[oj 20 (.mv 0),oj 21 (.len 20),oj 22 (.mv (ci 0))]
def r168_3:List J:=[oj 23 (.bin .lss 22 21)]
def r168_4:List J:=[oj 24 (.mv 22),oj 25 (.ias 1 20 22),oj 26 (.ld 1 false 25),oj 6 (.mv 24),oj 7 (.mv 26)]
def r168_5:List J:=[oj 8 (.mv (cu 0))]
def r168_6:List J:=[oj 27 (.mv 1),oj 28 (.len 27),oj 29 (.mv (ci 0))]
def r168_7:List J:=[oj 30 (.bin .lss 29 28)]
def r168_8:List J:=[oj 31 (.mv 29),oj 32 (.ias 1 27 29),oj 33 (.ld 1 false 32),oj 9 (.mv 31),oj 10 (.mv 33)]
def r168_9:List J:=[oj 35 (.mv 7),oj 36 (.mv 10),oj 37 (.call 200 [35,36]),oj 34 (.mv 37),oj 38 (.ext 34 0),oj 39 (.ext 34 1),oj 11 (.mv 38),oj 12 (.mv 39)]
def r168_10:List J:=[oj 41 (.mv 12),oj 42 (.mv 5),oj 43 (.mv 6),oj 44 (.mv 9),oj 45 (.bin .add 43 44),oj 46 (.ias 1 42 45),oj 47 (.ld 1 false 46),oj 48 (.xcall 158 [41,47,(cu 0)]),oj 40 (.mv 48),oj 49 (.ext 40 0),oj 50 (.ext 40 1),oj 12 (.mv 49),oj 13 (.mv 50)]
def r168_11:List J:=[oj 51 (.mv 11),oj 52 (.mv 13),oj 53 (.bin .add 51 52),oj 11 (.mv 53)]
def r168_12:List J:=[oj 55 (.mv 12),oj 56 (.mv 8),oj 57 (.xcall 158 [55,56,(cu 0)]),oj 54 (.mv 57),oj 58 (.ext 54 0),oj 59 (.ext 54 1),oj 12 (.mv 58),oj 13 (.mv 59)]
def r168_13:List J:=[oj 60 (.mv 5),oj 61 (.mv 6),oj 62 (.mv 9),oj 63 (.bin .add 61 62),oj 64 (.mv 12),oj 65 (.mv 11),oj 66 (.mv 13),oj 67 (.bin .add 65 66),oj 68 (.ias 1 60 63),on_ (.st 1 68 64),oj 8 (.mv 67)]
def k168_3:IC:=(.seq (.ops r168_8) (.seq (.ops r168_9) (.seq (.ops r168_10) (.seq (.ops r168_11) (.seq (.ops r168_12) (.ops r168_13))))))
def r168_14:List J:=[oj 69 (.bin .add 29 (ci 1)),oj 29 (.mv 69)]
def l168_2:IC:=(.seq (.ops r168_7) (.seq (.cond 30 .skip (.exit 2)) (.seq (.block 3 k168_3) (.ops r168_14))))
def k168_2:IC:=(.loop l168_2)
def r168_15:List J:=[oj 70 (.mv 5),oj 71 (.mv 6),oj 72 (.mv 1),oj 73 (.len 72),oj 74 (.bin .add 71 73),oj 75 (.mv 8),oj 76 (.ias 1 70 74),on_ (.st 1 76 75)]
def k168_1:IC:=(.seq (.ops r168_4) (.seq (.ops r168_5) (.seq (.seq (.ops r168_6) (.block 2 k168_2)) (.ops r168_15))))
def r168_16:List J:=[oj 77 (.bin .add 22 (ci 1)),oj 22 (.mv 77)]
def l168_1:IC:=(.seq (.ops r168_3) (.seq (.cond 23 .skip (.exit 0)) (.seq (.block 1 k168_1) (.ops r168_16))))
def k168_0:IC:=(.loop l168_1)
def r168_17:List J:=[oj 78 (.mv 5),oj 4 (.mv 78)]
def d168:FnD:=⟨79,[.tmp 4],(.seq (.ops r168_0) (.seq (.ops r168_1) (.seq (.seq (.ops r168_2) (.block 0 k168_0)) (.seq (.ops r168_17) .ret))))⟩
theorem ok168:okF Tryz.prog 168 d168=true:=by kernel_rfl
def r205_0:List J:=[oj 2 (.al 162 [.ints .u64 4 (List.replicate 4 0)]),oj 3 (.mv (.const (.slice none 0 0)))]
def r205_1:List J:=[oj 4 (.al 162 [.ints .u64 4 (List.replicate 4 0)])]
def r205_2:List J:=[oj 8 (.sla 4 1 4 none none none),oj 9 (.mv 0),oj 10 (.cpy 1 8 9)]
def r205_3:List J:=[oj 11 (.ia 4 1 4 (ci 3)),oj 12 (.ld 1 false 11),oj 13 (.bin .and 12 (cu 1152921504606846975)),oj 14 (.ia 4 1 4 (ci 3)),on_ (.st 1 14 13)]
def r205_4:List J:=[oj 5 (.mv (.const (.slice none 0 0)))]
def r205_5:List J:=[oj 6 (.mv (ci 3))]
def r205_6:List J:=[oj 15 (.mv 6),oj 16 (.mv 0),oj 17 (.len 16),oj 18 (.bin .lss 15 17)]
def r205_8:List J:=[oj 21 (.mv 0),oj 22 (.mv 6),oj 23 (.ias 1 21 22),oj 24 (.ld 1 false 23),oj 25 (.bin .shr 24 (cu 60)),oj 7 (.mv 25)]
def r205_9:List J:=[oj 26 (.mv 6),oj 27 (.bin .add 26 (ci 1)),oj 28 (.mv 0),oj 29 (.len 28),oj 30 (.bin .lss 27 29)]
def r205_10:List J:=[oj 31 (.mv 7),oj 32 (.mv 0),oj 33 (.mv 6),oj 34 (.bin .add 33 (ci 1)),oj 35 (.ias 1 32 34),oj 36 (.ld 1 false 35),oj 37 (.bin .shl 36 (cu 4)),oj 38 (.bin .or 31 37),oj 7 (.mv 38)]
def r205_11:List J:=[oj 39 (.mv 5),oj 40 (.mv 7),oj 41 (.bs 78 1 1 [.one (.int .u64 0)] [(0,1,40)]),oj 42 (.app 78 1 8 [.one (.int .u64 0)] 39 41),oj 5 (.mv 42)]
def k205_1:IC:=(.seq (.ops r205_8) (.seq (.seq (.ops r205_9) (.cond 30 (.ops r205_10) .skip)) (.ops r205_11)))
def r205_7:List J:=[oj 19 (.mv 6),oj 20 (.bin .add 19 (ci 1)),oj 6 (.mv 20)]
def l205_1:IC:=(.seq (.seq (.ops r205_6) (.cond 18 .skip (.exit 0))) (.seq (.block 1 k205_1) (.ops r205_7)))
def k205_0:IC:=(.loop l205_1)
def r205_12:List J:=[oj 43 (.ld 4 true 4),oj 44 (.mv 5),on_ (.st 4 2 43),oj 3 (.mv 44)]
def d205:FnD:=⟨45,[.cell 2 4 true,.tmp 3],(.seq (.ops r205_0) (.seq (.ops r205_1) (.seq (.ops r205_2) (.seq (.ops r205_3) (.seq (.ops r205_4) (.seq (.seq (.ops r205_5) (.block 0 k205_0)) (.seq (.ops r205_12) .ret)))))))⟩
theorem ok205:okF Tryz.prog 205 d205=true:=by kernel_rfl
def r206_0:List J:=[oj 0 (.mv (.const (.slice none 0 0)))]
def r206_1:List J:=[oj 1 (.bs 78 2 1 [.one (.int .u64 0),.one (.int .u64 0)] [(0,1,(cu 6346243789798364141)),(1,1,(cu 1503914060200516822))]),oj 0 (.mv 1)]
def d206:FnD:=⟨2,[.tmp 0],(.seq (.ops r206_0) (.seq (.ops r206_1) .ret))⟩
theorem ok206:okF Tryz.prog 206 d206=true:=by kernel_rfl
def r162_0:List J:=[oj 2 (.al 162 [.ints .u64 4 (List.replicate 4 0)])]
def r162_1:List J:=[oj 3 (.al 229 [.rows 4 2 (fun _=>cells [.ints .u64 4 (List.replicate 4 0)])])]
def r162_2:List J:=[oj 10 (.mv (ci 0))]
def r162_3:List J:=[oj 11 (.bin .lss 10 (ci 4))]
def r162_4:List J:=[oj 12 (.mv 10),oj 4 (.mv 12)]
def r162_5:List J:=[oj 5 (.al 162 [.ints .u64 4 (List.replicate 4 0)])]
def r162_6:List J:=[oj 14 (.mv 0),oj 15 (.call 205 [14]),oj 13 (.mv 15),oj 16 (.ext 13 0),oj 17 (.ext 13 1),on_ (.st 4 5 16),oj 0 (.mv 17)]
def r162_7:Sch:=(.p [0] (oj 19 (.mv 4)) (.p [1] (oj 20 (.bin .rem 19 (ci 2))) (.p [2] (oj 21 (.mv 4)) (.p [3] (oj 22 (.bin .rem 21 (ci 2))) (.p [4] (oj 23 (.ia 2 4 3 22)) (.q [5] (oj 24 (.ld 4 true 23)) (.q [6] (oj 25 (.ld 4 true 5)) (.p [7] (oj 26 (.call 165 [24,25])) (.p [8] (oj 18 (.mv 26)) (.p [9] (oj 27 (.ext 18 0)) (.p [10] (oj 28 (.ext 18 1)) (.p [11] (oj 29 (.ia 2 4 3 20)) (.e 12 (oe (.st 4 29 27)) .nil)))))))))))))
def r162_8:List J:=[oj 30 (.mv 0),oj 31 (.call 206 []),oj 32 (.call 168 [30,31]),oj 0 (.mv 32)]
def k162_1:IC:=(.seq (.ops r162_4) (.seq (.ops r162_5) (.seq (.ops r162_6) (.seq (.draw r162_7 [12]) (.ops r162_8)))))
def r162_9:List J:=[oj 33 (.bin .add 10 (ci 1)),oj 10 (.mv 33)]
def l162_1:IC:=(.seq (.ops r162_3) (.seq (.cond 11 .skip (.exit 0)) (.seq (.block 1 k162_1) (.ops r162_9))))
def k162_0:IC:=(.loop l162_1)
def r162_10:List J:=[oj 35 (.ld 4 true (.global 1)),oj 36 (.ld 4 true (.global 1)),oj 37 (.call 165 [35,36]),oj 34 (.mv 37),oj 38 (.ext 34 0),oj 39 (.ext 34 1),oj 6 (.al 162 [.ints .u64 4 (List.replicate 4 0)]),on_ (.st 4 6 38),oj 7 (.mv 39)]
def r162_11:List J:=[oj 41 (.ia 2 4 3 (ci 0)),oj 42 (.ld 4 true 41),oj 43 (.ld 4 true 6),oj 44 (.call 165 [42,43]),oj 40 (.mv 44),oj 45 (.ext 40 0),oj 46 (.ext 40 1),oj 8 (.al 162 [.ints .u64 4 (List.replicate 4 0)]),on_ (.st 4 8 45),oj 9 (.mv 46)]
def r162_12:List J:=[oj 48 (.ld 4 true 8),oj 49 (.ia 2 4 3 (ci 1)),oj 50 (.ld 4 true 49),oj 51 (.call 131 [48,50]),oj 47 (.mv 51),oj 52 (.ext 47 0),oj 53 (.ext 47 1),on_ (.st 4 8 52)]
def r162_13:List J:=[oj 54 (.ld 4 true 8),oj 55 (.call 167 [54]),on_ (.st 4 2 55)]
def d162:FnD:=⟨56,[.cell 2 4 true],(.seq (.ops r162_0) (.seq (.ops r162_1) (.seq (.seq (.ops r162_2) (.block 0 k162_0)) (.seq (.ops r162_10) (.seq (.ops r162_11) (.seq (.ops r162_12) (.seq (.ops r162_13) .ret)))))))⟩
theorem ok162:okF Tryz.prog 162 d162=true:=by kernel_rfl
def r98_0:List J:=[oj 1 (.bx 94 0),oj 2 (.al 74 [.ints .u8 32 (List.replicate 32 0)])]
def r98_1:List J:=[oj 3 (.al 144 [.ints .u64 8 (List.replicate 8 0)])]
def r98_2:List J:=[oj 5 (.mv (ci 0))]
def r98_3:List J:=[oj 6 (.bin .lss 5 (ci 8))]
def r98_4:List J:=[oj 7 (.mv 5),oj 4 (.mv 7)]
def r98_5:List J:=[oj 9 (.mv 4),oj 10 (.sla 64 1 1 none none none),oj 11 (.mv 4),oj 12 (.bin .mul (ci 8) 11),oj 13 (.call 160 [10,12]),oj 8 (.mv 13),oj 14 (.ext 8 0),oj 15 (.ext 8 1),oj 16 (.ia 8 1 3 9),on_ (.st 1 16 14)]
def k98_1:IC:=(.seq (.ops r98_4) (.ops r98_5))
def r98_6:List J:=[oj 17 (.bin .add 5 (ci 1)),oj 5 (.mv 17)]
def l98_1:IC:=(.seq (.ops r98_3) (.seq (.cond 6 .skip (.exit 0)) (.seq (.block 1 k98_1) (.ops r98_6))))
def k98_0:IC:=(.loop l98_1)
def r98_7:List J:=[oj 18 (.sla 8 1 3 none none none),oj 19 (.call 162 [18]),oj 20 (.call 161 [19]),on_ (.st 32 2 20)]
def d98:FnD:=⟨21,[.cell 2 32 true],(.seq (.ops r98_0) (.seq (.ops r98_1) (.seq (.seq (.ops r98_2) (.block 0 k98_0)) (.seq (.ops r98_7) .ret))))⟩
theorem ok98:okF Tryz.prog 98 d98=true:=by kernel_rfl
def r52_0:List J:=[oj 2 (.al 74 [.ints .u8 32 (List.replicate 32 0)])]
def r52_1:List J:=[oj 6 (.call 96 []),oj 3 (.mv 6)]
def r52_2:List J:=[oj 7 (.mv 0),oj 8 (.len 7),oj 9 (.mv (ci 0))]
def r52_3:List J:=[oj 10 (.bin .lss 9 8)]
def r52_4:List J:=[oj 11 (.ias 1 7 9),oj 12 (.ld 1 false 11),oj 5 (.mv 12)]
def r52_5:List J:=[oj 13 (.mv 3),oj 14 (.mv 5),oj 15 (.call 97 [13,14])]
def k52_1:IC:=(.seq (.ops r52_4) (.ops r52_5))
def r52_6:List J:=[oj 16 (.bin .add 9 (ci 1)),oj 9 (.mv 16)]
def l52_1:IC:=(.seq (.ops r52_3) (.seq (.cond 10 .skip (.exit 0)) (.seq (.block 1 k52_1) (.ops r52_6))))
def k52_0:IC:=(.loop l52_1)
def r52_7:List J:=[oj 17 (.mv 3),oj 18 (.call 99 [17]),oj 19 (.call 98 [18]),on_ (.st 32 2 19)]
def d52:FnD:=⟨20,[.cell 2 32 true],(.seq (.ops r52_0) (.seq (.ops r52_1) (.seq (.seq (.ops r52_2) (.block 0 k52_0)) (.seq (.ops r52_7) .ret))))⟩
theorem ok52:okF Tryz.prog 52 d52=true:=by kernel_rfl
def r132_0:List J:=[oj 1 (.bx 74 0),oj 2 (.al 162 [.ints .u64 4 (List.replicate 4 0)])]
def r132_1:List J:=[oj 3 (.al 162 [.ints .u64 4 (List.replicate 4 0)])]
def r132_2:List J:=[oj 5 (.mv (ci 0))]
def r132_3:List J:=[oj 6 (.bin .lss 5 (ci 4))]
def r132_4:List J:=[oj 7 (.mv 5),oj 4 (.mv 7)]
def r132_5:List J:=[oj 9 (.mv 4),oj 10 (.sla 32 1 1 none none none),oj 11 (.mv 4),oj 12 (.bin .mul (ci 8) 11),oj 13 (.call 160 [10,12]),oj 8 (.mv 13),oj 14 (.ext 8 0),oj 15 (.ext 8 1),oj 16 (.ia 4 1 3 9),on_ (.st 1 16 14)]
def k132_1:IC:=(.seq (.ops r132_4) (.ops r132_5))
def r132_6:List J:=[oj 17 (.bin .add 5 (ci 1)),oj 5 (.mv 17)]
def l132_1:IC:=(.seq (.ops r132_3) (.seq (.cond 6 .skip (.exit 0)) (.seq (.block 1 k132_1) (.ops r132_6))))
def k132_0:IC:=(.loop l132_1)
def r132_7:List J:=[oj 18 (.ld 4 true 3),on_ (.st 4 2 18)]
def d132:FnD:=⟨19,[.cell 2 4 true],(.seq (.ops r132_0) (.seq (.ops r132_1) (.seq (.seq (.ops r132_2) (.block 0 k132_0)) (.seq (.ops r132_7) .ret))))⟩
theorem ok132:okF Tryz.prog 132 d132=true:=by kernel_rfl
def r169_0:List J:=[oj 1 (.bx 74 0),oj 2 (.mv (.const (.slice none 0 0)))]
def r169_1:List J:=[oj 4 (.ld 32 true 1),oj 5 (.call 132 [4]),oj 3 (.al 162 [.ints .u64 4 (List.replicate 4 0)]),on_ (.st 4 3 5)]
def r169_2:List J:=[oj 6 (.sla 4 1 3 none none none),oj 2 (.mv 6)]
def d169:FnD:=⟨7,[.tmp 2],(.seq (.ops r169_0) (.seq (.ops r169_1) (.seq (.ops r169_2) .ret)))⟩
theorem ok169:okF Tryz.prog 169 d169=true:=by kernel_rfl
def r166_0:List J:=[oj 1 (.bx 74 0),oj 2 (.al 162 [.ints .u64 4 (List.replicate 4 0)])]
def r166_1:List J:=[oj 3 (.ld 32 true 1),oj 4 (.call 169 [3]),oj 5 (.call 162 [4]),on_ (.st 4 2 5)]
def d166:FnD:=⟨6,[.cell 2 4 true],(.seq (.ops r166_0) (.seq (.ops r166_1) .ret))⟩
theorem ok166:okF Tryz.prog 166 d166=true:=by kernel_rfl
def r100_0:List J:=[oj 2 (.bx 74 0),oj 3 (.bx 74 1),oj 4 (.al 74 [.ints .u8 32 (List.replicate 32 0)])]
def r100_1:Sch:=(.q [0] (oj 8 (.ld 32 true 2)) (.p [1] (oj 9 (.call 166 [8])) (.q [2] (oj 10 (.ld 32 true 3)) (.p [3] (oj 11 (.call 166 [10])) (.p [4] (oj 12 (.call 165 [9,11])) (.p [5] (oj 7 (.mv 12)) (.p [6] (oj 13 (.ext 7 0)) (.p [7] (oj 14 (.ext 7 1)) (.e 8 (oi 5 (.al 162 [.ints .u64 4 (List.replicate 4 0)])) (.e 9 (oe (.st 4 5 13)) (.p [10] (oj 6 (.mv 14)) .nil)))))))))))
def r100_2:List J:=[oj 15 (.ld 4 true 5),oj 16 (.call 167 [15]),oj 17 (.call 161 [16]),on_ (.st 32 4 17)]
def d100:FnD:=⟨18,[.cell 4 32 true],(.seq (.ops r100_0) (.seq (.draw r100_1 [9]) (.seq (.ops r100_2) .ret)))⟩
theorem ok100:okF Tryz.prog 100 d100=true:=by kernel_rfl
def r101_0:List J:=[oj 2 (.bx 74 0),oj 3 (.bx 74 1),oj 4 (.al 74 [.ints .u8 32 (List.replicate 32 0)])]
def r101_1:Sch:=(.q [0] (oj 5 (.ld 32 true 2)) (.q [2] (oj 7 (.ld 32 true 3)) (.e 1 (oi 6 (.call 169 [5])) (.e 3 (oi 8 (.call 169 [7])) (.e 4 (oi 9 (.call 168 [6,8])) (.e 5 (oi 10 (.call 162 [9])) (.p [6] (oj 11 (.call 161 [10])) (.e 7 (oe (.st 32 4 11)) .nil))))))))
def d101:FnD:=⟨12,[.cell 4 32 true],(.seq (.ops r101_0) (.seq (.draw r101_1 [7]) .ret))⟩
theorem ok101:okF Tryz.prog 101 d101=true:=by kernel_rfl
def r53_0:List J:=[oj 3 (.bx 74 0),oj 4 (.bx 74 1),oj 5 (.bx 74 2),oj 6 (.al 74 [.ints .u8 32 (List.replicate 32 0)])]
def r53_1:Sch:=(.q [0] (oj 7 (.ld 32 true 3)) (.q [1] (oj 8 (.ld 32 true 4)) (.p [2] (oj 9 (.call 101 [7,8])) (.q [3] (oj 10 (.ld 32 true 5)) (.p [4] (oj 11 (.call 100 [9,10])) (.e 5 (oe (.st 32 6 11)) .nil))))))
def d53:FnD:=⟨12,[.cell 6 32 true],(.seq (.ops r53_0) (.seq (.draw r53_1 [5]) .ret))⟩
theorem ok53:okF Tryz.prog 53 d53=true:=by kernel_rfl
def r11_0:List J:=[oj 2 (.bx 23 0),oj 4 (.al 27 [.ints .u8 64 (List.replicate 64 0)])]
def r11_1:List J:=[oj 14 (.ld 32 true 2),oj 15 (.call 49 [14]),oj 13 (.mv 15),oj 16 (.ext 13 0),oj 17 (.ext 13 1),oj 5 (.al 74 [.ints .u8 32 (List.replicate 32 0)]),on_ (.st 32 5 16),oj 6 (.mv 17)]
def r11_2:List J:=[oj 18 (.ld 32 true 5),oj 19 (.call 51 [18]),oj 20 (.call 50 [19]),oj 7 (.al 29 [.ints .u8 32 (List.replicate 32 0)]),on_ (.st 32 7 20)]
def r11_3:List J:=[oj 21 (.mv 6),oj 22 (.mv 1),oj 23 (.bs 24 2 1 [.one (.slice none 0 0),.one (.slice none 0 0)] [(0,1,21),(1,1,22)]),oj 24 (.call 52 [23]),oj 8 (.al 74 [.ints .u8 32 (List.replicate 32 0)]),on_ (.st 32 8 24)]
def r11_4:List J:=[oj 25 (.ld 32 true 8),oj 26 (.call 51 [25]),oj 27 (.call 50 [26]),oj 9 (.al 29 [.ints .u8 32 (List.replicate 32 0)]),on_ (.st 32 9 27)]
def r11_5:Sch:=(.p [0] (oj 28 (.sla 32 1 9 none none none)) (.p [1] (oj 29 (.sla 32 1 7 none none none)) (.p [2] (oj 30 (.mv 1)) (.two 3 (oi 31 (.bs 24 3 1 [.one (.slice none 0 0),.one (.slice none 0 0),.one (.slice none 0 0)] [(0,1,28),(1,1,29),(2,1,30)])) (.two 4 (oi 32 (.call 52 [31])) (.e 5 (oi 10 (.al 74 [.ints .u8 32 (List.replicate 32 0)])) (.e 6 (oe (.st 32 10 32)) .nil))
  5 ⟨some 10,none,.al 74 [.ints .u8 32 (List.replicate 32 0)]⟩ (.e 4 (oi 32 (.call 52 [31])) (.e 6 (oe (.st 32 10 32)) .nil)))
  5 ⟨some 10,none,.al 74 [.ints .u8 32 (List.replicate 32 0)]⟩ (.e 3 (oi 31 (.bs 24 3 1 [.one (.slice none 0 0),.one (.slice none 0 0),.one (.slice none 0 0)] [(0,1,28),(1,1,29),(2,1,30)])) (.e 4 (oi 32 (.call 52 [31])) (.e 6 (oe (.st 32 10 32)) .nil)))))))
def r11_6:List J:=[oj 33 (.ld 32 true 10),oj 34 (.ld 32 true 5),oj 35 (.ld 32 true 8),oj 36 (.call 53 [33,34,35]),oj 11 (.al 74 [.ints .u8 32 (List.replicate 32 0)]),on_ (.st 32 11 36)]
def r11_7:List J:=[oj 12 (.al 27 [.ints .u8 64 (List.replicate 64 0)])]
def r11_8:Sch:=(.p [0] (oj 37 (.sla 64 1 12 none (some (ci 32)) none)) (.p [1] (oj 38 (.sla 32 1 9 none none none)) (.e 2 (oi 39 (.cpy 1 37 38)) .nil)))
def r11_9:Sch:=(.p [0] (oj 40 (.sla 64 1 12 (some (ci 32)) none none)) (.p [1] (oj 41 (.sla 32 1 11 none none none)) (.e 2 (oi 42 (.cpy 1 40 41)) .nil)))
def r11_10:List J:=[oj 43 (.ld 64 true 12),on_ (.st 64 4 43)]
def d11:FnD:=⟨44,[.cell 4 64 true],(.seq (.ops r11_0) (.seq (.ops r11_1) (.seq (.ops r11_2) (.seq (.ops r11_3) (.seq (.ops r11_4) (.seq (.draw r11_5 [6]) (.seq (.ops r11_6) (.seq (.ops r11_7) (.seq (.draw r11_8 [2]) (.seq (.draw r11_9 [2]) (.seq (.ops r11_10) .ret)))))))))))⟩
theorem ok11:okF Tryz.prog 11 d11=true:=by kernel_rfl
def r12_0:List J:=[oj 1 (.bx 23 0),oj 2 (.al 29 [.ints .u8 32 (List.replicate 32 0)])]
def r12_1:List J:=[oj 6 (.ld 32 true 1),oj 7 (.call 49 [6]),oj 5 (.mv 7),oj 8 (.ext 5 0),oj 9 (.ext 5 1),oj 3 (.al 74 [.ints .u8 32 (List.replicate 32 0)]),on_ (.st 32 3 8),oj 4 (.mv 9)]
def r12_2:List J:=[oj 10 (.ld 32 true 3),oj 11 (.call 51 [10]),oj 12 (.call 50 [11]),on_ (.st 32 2 12)]
def d12:FnD:=⟨13,[.cell 2 32 true],(.seq (.ops r12_0) (.seq (.ops r12_1) (.seq (.ops r12_2) .ret)))⟩
theorem ok12:okF Tryz.prog 12 d12=true:=by kernel_rfl
def r197_0:List J:=[oj 2 (.bx 88 0),oj 3 (.bx 88 1),oj 4 (.al 88 [Z10])]
def r197_1:List J:=[oj 5 (.mv (cu 0))]
def r197_2:List J:=[oj 6 (.mv (ci 0))]
def r197_3:List J:=[oj 8 (.mv 6),oj 9 (.bin .lss 8 (ci 10))]
def r197_5:Sch:=(.p [0] (oj 12 (.mv 6)) (.p [1] (oj 13 (.ia 10 1 2 12)) (.p [5] (oj 17 (.mv 6)) (.p [6] (oj 18 (.ia 10 1 3 17)) (.p [9] (oj 21 (.mv 5)) (.q [2] (oj 14 (.ld 1 false 13)) (.p [3] (oj 15 (.bin .add 14 (cu 67108863))) (.p [4] (oj 16 (.bin .add 15 (cu 1))) (.q [7] (oj 19 (.ld 1 false 18)) (.p [8] (oj 20 (.bin .sub 16 19)) (.p [10] (oj 22 (.bin .sub 20 21)) (.p [11] (oj 7 (.mv 22)) .nil))))))))))))
def r197_6:List J:=[oj 23 (.mv 7),oj 24 (.bin .shr 23 (cu 26)),oj 25 (.bin .sub (cu 1) 24),oj 5 (.mv 25)]
def r197_7:List J:=[oj 26 (.mv 6),oj 27 (.mv 7),oj 28 (.bin .and 27 (cu 67108863)),oj 29 (.ia 10 1 2 26),on_ (.st 1 29 28)]
def k197_1:IC:=(.seq (.draw r197_5 []) (.seq (.ops r197_6) (.ops r197_7)))
def r197_4:List J:=[oj 10 (.mv 6),oj 11 (.bin .add 10 (ci 1)),oj 6 (.mv 11)]
def l197_1:IC:=(.seq (.seq (.ops r197_3) (.cond 9 .skip (.exit 0))) (.seq (.block 1 k197_1) (.ops r197_4)))
def k197_0:IC:=(.loop l197_1)
def r197_8:List J:=[oj 30 (.ld 10 true 2),on_ (.st 10 4 30)]
def d197:FnD:=⟨31,[.cell 4 10 true],(.seq (.ops r197_0) (.seq (.ops r197_1) (.seq (.seq (.ops r197_2) (.block 0 k197_0)) (.seq (.ops r197_8) .ret))))⟩
theorem ok197:okF Tryz.prog 197 d197=true:=by kernel_rfl
def r198_0:List J:=[oj 0 (.al 88 [Z10])]
def r198_1:List J:=[oj 1 (.bd [Z10] [(0,1,(cu 67108845)),(1,1,(cu 67108863)),(2,1,(cu 67108863)),(3,1,(cu 67108863)),(4,1,(cu 67108863)),(5,1,(cu 67108863)),(6,1,(cu 67108863)),(7,1,(cu 67108863)),(8,1,(cu 67108863)),(9,1,(cu 2097151))]),on_ (.st 10 0 1)]
def d198:FnD:=⟨2,[.cell 0 10 true],(.seq (.ops r198_0) (.seq (.ops r198_1) .ret))⟩
theorem ok198:okF Tryz.prog 198 d198=true:=by kernel_rfl
def r207_0:List J:=[oj 1 (.bx 88 0),oj 2 (.al 88 [Z10])]
def r207_1:List J:=[oj 3 (.mv (ci 0))]
def r207_2:List J:=[oj 4 (.mv 3),oj 5 (.bin .lss 4 (ci 9))]
def r207_4:Sch:=(.p [0] (oj 8 (.mv 3)) (.p [1] (oj 9 (.bin .add 8 (ci 1))) (.p [2] (oj 10 (.mv 3)) (.p [3] (oj 11 (.bin .add 10 (ci 1))) (.p [4] (oj 12 (.ia 10 1 1 11)) (.p [6] (oj 14 (.mv 3)) (.p [7] (oj 15 (.ia 10 1 1 14)) (.q [5] (oj 13 (.ld 1 false 12)) (.q [8] (oj 16 (.ld 1 false 15)) (.p [9] (oj 17 (.bin .shr 16 (cu 26))) (.p [10] (oj 18 (.bin .add 13 17)) (.p [11] (oj 19 (.ia 10 1 1 9)) (.e 12 (oe (.st 1 19 18)) .nil)))))))))))))
def r207_5:List J:=[oj 20 (.mv 3),oj 21 (.mv 3),oj 22 (.ia 10 1 1 21),oj 23 (.ld 1 false 22),oj 24 (.bin .and 23 (cu 67108863)),oj 25 (.ia 10 1 1 20),on_ (.st 1 25 24)]
def k207_1:IC:=(.seq (.draw r207_4 [12]) (.ops r207_5))
def r207_3:List J:=[oj 6 (.mv 3),oj 7 (.bin .add 6 (ci 1)),oj 3 (.mv 7)]
def l207_1:IC:=(.seq (.seq (.ops r207_2) (.cond 5 .skip (.exit 0))) (.seq (.block 1 k207_1) (.ops r207_3)))
def k207_0:IC:=(.loop l207_1)
def r207_6:List J:=[oj 26 (.ld 10 true 1),on_ (.st 10 2 26)]
def d207:FnD:=⟨27,[.cell 2 10 true],(.seq (.ops r207_0) (.seq (.seq (.ops r207_1) (.block 0 k207_0)) (.seq (.ops r207_6) .ret)))⟩
theorem ok207:okF Tryz.prog 207 d207=true:=by kernel_rfl
def r208_0:List J:=[oj 2 (.bx 88 0),oj 3 (.bx 88 1),oj 4 (.mv (.const (.bool false)))]
def r208_1:List J:=[oj 5 (.mv (ci 9))]
def r208_2:List J:=[oj 6 (.mv 5),oj 7 (.bin .geq 6 (ci 0))]
def r208_4:Sch:=(.p [0] (oj 10 (.mv 5)) (.p [1] (oj 11 (.ia 10 1 2 10)) (.p [3] (oj 13 (.mv 5)) (.p [4] (oj 14 (.ia 10 1 3 13)) (.q [2] (oj 12 (.ld 1 false 11)) (.q [5] (oj 15 (.ld 1 false 14)) (.p [6] (oj 16 (.bin .neq 12 15)) .nil)))))))
def r208_5:Sch:=(.p [0] (oj 17 (.mv 5)) (.p [1] (oj 18 (.ia 10 1 2 17)) (.p [3] (oj 20 (.mv 5)) (.p [4] (oj 21 (.ia 10 1 3 20)) (.q [2] (oj 19 (.ld 1 false 18)) (.q [5] (oj 22 (.ld 1 false 21)) (.p [6] (oj 23 (.bin .lss 19 22)) (.p [7] (oj 4 (.mv 23)) .nil))))))))
def k208_1:IC:=(.seq (.draw r208_4 []) (.cond 16 (.seq (.draw r208_5 []) .ret) .skip))
def r208_3:List J:=[oj 8 (.mv 5),oj 9 (.bin .sub 8 (ci 1)),oj 5 (.mv 9)]
def l208_1:IC:=(.seq (.seq (.ops r208_2) (.cond 7 .skip (.exit 0))) (.seq (.block 1 k208_1) (.ops r208_3)))
def k208_0:IC:=(.loop l208_1)
def r208_6:List J:=[oj 4 (.mv (.const (.bool false)))]
def d208:FnD:=⟨24,[.tmp 4],(.seq (.ops r208_0) (.seq (.seq (.ops r208_1) (.block 0 k208_0)) (.seq (.ops r208_6) .ret)))⟩
theorem ok208:okF Tryz.prog 208 d208=true:=by kernel_rfl
def r172_0:List J:=[oj 1 (.bx 88 0),oj 2 (.al 88 [Z10])]
def r172_1:List J:=[oj 4 (.ld 10 true 1),oj 5 (.call 207 [4]),on_ (.st 10 1 5)]
def r172_2:List J:=[oj 6 (.ia 10 1 1 (ci 9)),oj 7 (.ld 1 false 6),oj 8 (.bin .gtr 7 (cu 2097151))]
def r172_3:List J:=[oj 9 (.ia 10 1 1 (ci 0)),oj 10 (.ld 1 false 9),oj 11 (.ia 10 1 1 (ci 9)),oj 12 (.ld 1 false 11),oj 13 (.bin .shr 12 (cu 21)),oj 14 (.bin .mul (cu 19) 13),oj 15 (.bin .add 10 14),oj 16 (.ia 10 1 1 (ci 0)),on_ (.st 1 16 15)]
def r172_4:List J:=[oj 17 (.ia 10 1 1 (ci 9)),oj 18 (.ld 1 false 17),oj 19 (.bin .and 18 (cu 2097151)),oj 20 (.ia 10 1 1 (ci 9)),on_ (.st 1 20 19)]
def r172_5:List J:=[oj 21 (.ld 10 true 1),oj 22 (.call 207 [21]),on_ (.st 10 1 22)]
def k172_1:IC:=(.seq (.ops r172_3) (.seq (.ops r172_4) (.ops r172_5)))
def l172_1:IC:=(.seq (.seq (.ops r172_2) (.cond 8 .skip (.exit 0))) (.block 1 k172_1))
def k172_0:IC:=(.loop l172_1)
def r172_6:List J:=[oj 23 (.call 198 []),oj 3 (.al 88 [Z10]),on_ (.st 10 3 23)]
def r172_7:List J:=[oj 24 (.ld 10 true 1),oj 25 (.ld 10 true 3),oj 26 (.call 208 [24,25]),oj 27 (.un .not 26)]
def r172_8:List J:=[oj 28 (.ld 10 true 1),oj 29 (.ld 10 true 3),oj 30 (.call 197 [28,29]),on_ (.st 10 1 30)]
def r172_9:List J:=[oj 31 (.ld 10 true 1),on_ (.st 10 2 31)]
def d172:FnD:=⟨32,[.cell 2 10 true],(.seq (.ops r172_0) (.seq (.ops r172_1) (.seq (.block 0 k172_0) (.seq (.ops r172_6) (.seq (.seq (.ops r172_7) (.cond 27 (.ops r172_8) .skip)) (.seq (.ops r172_9) .ret))))))⟩
theorem ok172:okF Tryz.prog 172 d172=true:=by kernel_rfl
def r104_0:List J:=[oj 2 (.bx 88 0),oj 3 (.bx 88 1),oj 4 (.al 88 [Z10])]
def r104_1:List J:=[oj 5 (.al 205 [.ints .u64 20 (List.replicate 20 0)])]
def r104_2:List J:=[oj 6 (.mv (ci 0))]
def r104_3:List J:=[oj 11 (.mv 6),oj 12 (.bin .lss 11 (ci 10))]
def r104_5:List J:=[oj 7 (.mv (ci 0))]
def r104_6:List J:=[oj 15 (.mv 7),oj 16 (.bin .lss 15 (ci 10))]
def r104_8:Sch:=(.p [0] (oj 19 (.mv 6)) (.p [1] (oj 20 (.mv 7)) (.p [2] (oj 21 (.bin .add 19 20)) (.p [3] (oj 22 (.mv 6)) (.p [4] (oj 23 (.mv 7)) (.p [5] (oj 24 (.bin .add 22 23)) (.p [6] (oj 25 (.ia 20 1 5 24)) (.p [8] (oj 27 (.mv 6)) (.p [9] (oj 28 (.ia 10 1 2 27)) (.p [11] (oj 30 (.mv 7)) (.p [12] (oj 31 (.ia 10 1 3 30)) (.q [7] (oj 26 (.ld 1 false 25)) (.q [10] (oj 29 (.ld 1 false 28)) (.q [13] (oj 32 (.ld 1 false 31)) (.p [14] (oj 33 (.bin .mul 29 32)) (.p [15] (oj 34 (.bin .add 26 33)) (.p [16] (oj 35 (.ia 20 1 5 21)) (.e 17 (oe (.st 1 35 34)) .nil))))))))))))))))))
def k104_3:IC:=(.draw r104_8 [17])
def r104_7:List J:=[oj 17 (.mv 7),oj 18 (.bin .add 17 (ci 1)),oj 7 (.mv 18)]
def l104_2:IC:=(.seq (.seq (.ops r104_6) (.cond 16 .skip (.exit 2))) (.seq (.block 3 k104_3) (.ops r104_7)))
def k104_2:IC:=(.loop l104_2)
def k104_1:IC:=(.seq (.ops r104_5) (.block 2 k104_2))
def r104_4:List J:=[oj 13 (.mv 6),oj 14 (.bin .add 13 (ci 1)),oj 6 (.mv 14)]
def l104_1:IC:=(.seq (.seq (.ops r104_3) (.cond 12 .skip (.exit 0))) (.seq (.block 1 k104_1) (.ops r104_4)))
def k104_0:IC:=(.loop l104_1)
def r104_9:List J:=[oj 8 (.mv (ci 0))]
def r104_10:List J:=[oj 36 (.mv 8),oj 37 (.bin .lss 36 (ci 19))]
def r104_12:Sch:=(.p [0] (oj 40 (.mv 8)) (.p [1] (oj 41 (.bin .add 40 (ci 1))) (.p [2] (oj 42 (.mv 8)) (.p [3] (oj 43 (.bin .add 42 (ci 1))) (.p [4] (oj 44 (.ia 20 1 5 43)) (.p [6] (oj 46 (.mv 8)) (.p [7] (oj 47 (.ia 20 1 5 46)) (.q [5] (oj 45 (.ld 1 false 44)) (.q [8] (oj 48 (.ld 1 false 47)) (.p [9] (oj 49 (.bin .shr 48 (cu 26))) (.p [10] (oj 50 (.bin .add 45 49)) (.p [11] (oj 51 (.ia 20 1 5 41)) (.e 12 (oe (.st 1 51 50)) .nil)))))))))))))
def r104_13:List J:=[oj 52 (.mv 8),oj 53 (.mv 8),oj 54 (.ia 20 1 5 53),oj 55 (.ld 1 false 54),oj 56 (.bin .and 55 (cu 67108863)),oj 57 (.ia 20 1 5 52),on_ (.st 1 57 56)]
def k104_5:IC:=(.seq (.draw r104_12 [12]) (.ops r104_13))
def r104_11:List J:=[oj 38 (.mv 8),oj 39 (.bin .add 38 (ci 1)),oj 8 (.mv 39)]
def l104_3:IC:=(.seq (.seq (.ops r104_10) (.cond 37 .skip (.exit 4))) (.seq (.block 5 k104_5) (.ops r104_11)))
def k104_4:IC:=(.loop l104_3)
def r104_14:List J:=[oj 9 (.al 88 [Z10])]
def r104_15:List J:=[oj 10 (.mv (ci 0))]
def r104_16:List J:=[oj 58 (.mv 10),oj 59 (.bin .lss 58 (ci 10))]
def r104_18:Sch:=(.p [0] (oj 62 (.mv 10)) (.p [1] (oj 63 (.mv 10)) (.p [2] (oj 64 (.ia 20 1 5 63)) (.p [4] (oj 66 (.mv 10)) (.p [5] (oj 67 (.bin .add 66 (ci 10))) (.p [6] (oj 68 (.ia 20 1 5 67)) (.q [3] (oj 65 (.ld 1 false 64)) (.q [7] (oj 69 (.ld 1 false 68)) (.p [8] (oj 70 (.bin .mul (cu 608) 69)) (.p [9] (oj 71 (.bin .add 65 70)) (.p [10] (oj 72 (.ia 10 1 9 62)) (.e 11 (oe (.st 1 72 71)) .nil))))))))))))
def k104_7:IC:=(.draw r104_18 [11])
def r104_17:List J:=[oj 60 (.mv 10),oj 61 (.bin .add 60 (ci 1)),oj 10 (.mv 61)]
def l104_4:IC:=(.seq (.seq (.ops r104_16) (.cond 59 .skip (.exit 6))) (.seq (.block 7 k104_7) (.ops r104_17)))
def k104_6:IC:=(.loop l104_4)
def r104_19:List J:=[oj 73 (.ld 10 true 9),oj 74 (.call 172 [73]),on_ (.st 10 4 74)]
def d104:FnD:=⟨75,[.cell 4 10 true],(.seq (.ops r104_0) (.seq (.ops r104_1) (.seq (.seq (.ops r104_2) (.block 0 k104_0)) (.seq (.seq (.ops r104_9) (.block 4 k104_4)) (.seq (.ops r104_14) (.seq (.seq (.ops r104_15) (.block 6 k104_6)) (.seq (.ops r104_19) .ret)))))))⟩
theorem ok104:okF Tryz.prog 104 d104=true:=by kernel_rfl
def r176_0:List J:=[oj 2 (.al 88 [Z10])]
def r176_1:List J:=[oj 3 (.mv 0),oj 4 (.bin .and 3 (cu 67108863)),oj 5 (.mv 0),oj 6 (.bin .shr 5 (cu 26)),oj 7 (.bin .and 6 (cu 67108863)),oj 8 (.mv 0),oj 9 (.bin .shr 8 (cu 52)),oj 10 (.bd [Z10] [(0,1,4),(1,1,7),(2,1,9)]),on_ (.st 10 2 10)]
def d176:FnD:=⟨11,[.cell 2 10 true],(.seq (.ops r176_0) (.seq (.ops r176_1) .ret))⟩
theorem ok176:okF Tryz.prog 176 d176=true:=by kernel_rfl
def r170_0:List J:=[oj 2 (.bx 88 0),oj 3 (.bx 22 1),oj 4 (.al 88 [Z10])]
def r170_1:List J:=[oj 7 (.call 176 [(cu 1)]),oj 5 (.al 88 [Z10]),on_ (.st 10 5 7)]
def r170_2:List J:=[oj 6 (.mv (ci 255))]
def r170_3:List J:=[oj 8 (.mv 6),oj 9 (.bin .geq 8 (ci 0))]
def r170_5:List J:=[oj 12 (.ld 10 true 5),oj 13 (.ld 10 true 5),oj 14 (.call 104 [12,13]),on_ (.st 10 5 14)]
def r170_6:List J:=[oj 15 (.mv 6),oj 16 (.bin .quo 15 (ci 8)),oj 17 (.ia 32 1 3 16),oj 18 (.ld 1 false 17),oj 19 (.mv 6),oj 20 (.bin .rem 19 (ci 8)),oj 21 (.bin .shr 18 20),oj 22 (.bin .and 21 (.const (.int .u8 1))),oj 23 (.bin .eql 22 (.const (.int .u8 1)))]
def r170_7:List J:=[oj 24 (.ld 10 true 5),oj 25 (.ld 10 true 2),oj 26 (.call 104 [24,25]),on_ (.st 10 5 26)]
def k170_1:IC:=(.seq (.ops r170_5) (.seq (.ops r170_6) (.cond 23 (.ops r170_7) .skip)))
def r170_4:List J:=[oj 10 (.mv 6),oj 11 (.bin .sub 10 (ci 1)),oj 6 (.mv 11)]
def l170_1:IC:=(.seq (.seq (.ops r170_3) (.cond 9 .skip (.exit 0))) (.seq (.block 1 k170_1) (.ops r170_4)))
def k170_0:IC:=(.loop l170_1)
def r170_8:List J:=[oj 27 (.ld 10 true 5),on_ (.st 10 4 27)]
def d170:FnD:=⟨28,[.cell 4 10 true],(.seq (.ops r170_0) (.seq (.ops r170_1) (.seq (.seq (.ops r170_2) (.block 0 k170_0)) (.seq (.ops r170_8) .ret))))⟩
theorem ok170:okF Tryz.prog 170 d170=true:=by kernel_rfl
def r171_0:List J:=[oj 4 (.al 22 [.ints .u8 32 (List.replicate 32 0)])]
def r171_1:List J:=[oj 5 (.al 22 [.ints .u8 32 (List.replicate 32 0)])]
def r171_2:List J:=[oj 6 (.mv (ci 0))]
def r171_3:List J:=[oj 7 (.mv 6),oj 8 (.bin .lss 7 (ci 32))]
def r171_5:List J:=[oj 11 (.mv 6),oj 12 (.ia 32 1 5 11),on_ (.st 1 12 (.const (.int .u8 255)))]
def k171_1:IC:=(.ops r171_5)
def r171_4:List J:=[oj 9 (.mv 6),oj 10 (.bin .add 9 (ci 1)),oj 6 (.mv 10)]
def l171_1:IC:=(.seq (.seq (.ops r171_3) (.cond 8 .skip (.exit 0))) (.seq (.block 1 k171_1) (.ops r171_4)))
def k171_0:IC:=(.loop l171_1)
def r171_6:List J:=[oj 13 (.mv 0),oj 14 (.ia 32 1 5 (ci 0)),on_ (.st 1 14 13)]
def r171_7:List J:=[oj 15 (.mv 1),oj 16 (.ia 32 1 5 (ci 31)),on_ (.st 1 16 15)]
def r171_8:List J:=[oj 17 (.ld 32 true 5),on_ (.st 32 4 17)]
def d171:FnD:=⟨18,[.cell 4 32 true],(.seq (.ops r171_0) (.seq (.ops r171_1) (.seq (.seq (.ops r171_2) (.block 0 k171_0)) (.seq (.ops r171_6) (.seq (.ops r171_7) (.seq (.ops r171_8) .ret))))))⟩
theorem ok171:okF Tryz.prog 171 d171=true:=by kernel_rfl
def r102_0:List J:=[oj 1 (.bx 88 0),oj 2 (.al 88 [Z10])]
def r102_1:Sch:=(.p [1] (oj 4 (.call 171 [(.const (.int .u8 235)),(.const (.int .u8 127))])) (.q [0] (oj 3 (.ld 10 true 1)) (.p [2] (oj 5 (.call 170 [3,4])) (.e 3 (oe (.st 10 2 5)) .nil))))
def d102:FnD:=⟨6,[.cell 2 10 true],(.seq (.ops r102_0) (.seq (.draw r102_1 [3]) .ret))⟩
theorem ok102:okF Tryz.prog 102 d102=true:=by kernel_rfl
def r103_0:List J:=[oj 1 (.bx 88 0),oj 2 (.al 22 [.ints .u8 32 (List.replicate 32 0)])]
def r103_1:List J:=[oj 3 (.al 22 [.ints .u8 32 (List.replicate 32 0)])]
def r103_2:List J:=[oj 4 (.mv (ci 0))]
def r103_3:List J:=[oj 6 (.mv 4),oj 7 (.bin .lss 6 (ci 255))]
def r103_5:List J:=[oj 10 (.mv 4),oj 11 (.bin .quo 10 (ci 26)),oj 12 (.ia 10 1 1 11),oj 13 (.ld 1 false 12),oj 14 (.mv 4),oj 15 (.bin .rem 14 (ci 26)),oj 16 (.bin .shr 13 15),oj 17 (.bin .and 16 (cu 1)),oj 18 (.conv .u8 17),oj 5 (.mv 18)]
def r103_6:Sch:=(.p [0] (oj 19 (.mv 4)) (.p [1] (oj 20 (.bin .quo 19 (ci 8))) (.p [2] (oj 21 (.mv 4)) (.p [3] (oj 22 (.bin .quo 21 (ci 8))) (.p [4] (oj 23 (.ia 32 1 3 22)) (.p [6] (oj 25 (.mv 5)) (.p [7] (oj 26 (.mv 4)) (.p [8] (oj 27 (.bin .rem 26 (ci 8))) (.p [9] (oj 28 (.bin .shl 25 27)) (.q [5] (oj 24 (.ld 1 false 23)) (.p [10] (oj 29 (.bin .add 24 28)) (.p [11] (oj 30 (.ia 32 1 3 20)) (.e 12 (oe (.st 1 30 29)) .nil)))))))))))))
def k103_1:IC:=(.seq (.ops r103_5) (.draw r103_6 [12]))
def r103_4:List J:=[oj 8 (.mv 4),oj 9 (.bin .add 8 (ci 1)),oj 4 (.mv 9)]
def l103_1:IC:=(.seq (.seq (.ops r103_3) (.cond 7 .skip (.exit 0))) (.seq (.block 1 k103_1) (.ops r103_4)))
def k103_0:IC:=(.loop l103_1)
def r103_7:List J:=[oj 31 (.ld 32 true 3),on_ (.st 32 2 31)]
def d103:FnD:=⟨32,[.cell 2 32 true],(.seq (.ops r103_0) (.seq (.ops r103_1) (.seq (.seq (.ops r103_2) (.block 0 k103_0)) (.seq (.ops r103_7) .ret))))⟩
theorem ok103:okF Tryz.prog 103 d103=true:=by kernel_rfl
def r105_0:List J:=[oj 1 (.bx 88 0),oj 2 (.mv (.const (.bool false)))]
def r105_1:List J:=[oj 3 (.ia 10 1 1 (ci 0)),oj 4 (.ld 1 false 3),oj 5 (.bin .and 4 (cu 1)),oj 6 (.bin .eql 5 (cu 1)),oj 2 (.mv 6)]
def d105:FnD:=⟨7,[.tmp 2],(.seq (.ops r105_0) (.seq (.ops r105_1) .ret))⟩
theorem ok105:okF Tryz.prog 105 d105=true:=by kernel_rfl
def r54_0:List J:=[oj 1 (.bx 90 0),oj 2 (.al 29 [.ints .u8 32 (List.replicate 32 0)])]
def r54_1:List J:=[oj 5 (.fa 20 1),oj 6 (.ld 10 true 5),oj 7 (.call 102 [6]),oj 3 (.al 88 [Z10]),on_ (.st 10 3 7)]
def r54_2:List J:=[oj 8 (.fa 10 1),oj 9 (.ld 10 true 8),oj 10 (.ld 10 true 3),oj 11 (.call 104 [9,10]),oj 12 (.call 103 [11]),oj 4 (.al 22 [.ints .u8 32 (List.replicate 32 0)]),on_ (.st 32 4 12)]
def r54_3:List J:=[oj 13 (.fa 0 1),oj 14 (.ld 10 true 13),oj 15 (.ld 10 true 3),oj 16 (.call 104 [14,15]),oj 17 (.call 105 [16])]
def r54_4:List J:=[oj 18 (.ia 32 1 4 (ci 31)),oj 19 (.ld 1 false 18),oj 20 (.bin .add 19 (.const (.int .u8 128))),oj 21 (.ia 32 1 4 (ci 31)),on_ (.st 1 21 20)]
def r54_5:List J:=[oj 22 (.ld 32 true 4),on_ (.st 32 2 22)]
def d54:FnD:=⟨23,[.cell 2 32 true],(.seq (.ops r54_0) (.seq (.ops r54_1) (.seq (.ops r54_2) (.seq (.seq (.ops r54_3) (.cond 17 (.ops r54_4) .skip)) (.seq (.ops r54_5) .ret)))))⟩
theorem ok54:okF Tryz.prog 54 d54=true:=by kernel_rfl
def r142_0:List J:=[oj 1 (.bx 88 0),oj 2 (.al 88 [Z10])]
def r142_1:Sch:=(.p [0] (oj 3 (.call 198 [])) (.q [1] (oj 4 (.ld 10 true 1)) (.p [2] (oj 5 (.call 197 [3,4])) (.p [3] (oj 6 (.call 172 [5])) (.e 4 (oe (.st 10 2 6)) .nil)))))
def d142:FnD:=⟨7,[.cell 2 10 true],(.seq (.ops r142_0) (.seq (.draw r142_1 [4]) .ret))⟩
theorem ok142:okF Tryz.prog 142 d142=true:=by kernel_rfl
def r194_0:List J:=[oj 2 (.bx 88 0),oj 3 (.bx 88 1),oj 4 (.al 88 [Z10])]
def r194_1:List J:=[oj 5 (.mv (ci 0))]
def r194_2:List J:=[oj 6 (.mv 5),oj 7 (.bin .lss 6 (ci 10))]
def r194_4:Sch:=(.p [0] (oj 10 (.mv 5)) (.p [1] (oj 11 (.mv 5)) (.p [2] (oj 12 (.ia 10 1 2 11)) (.p [4] (oj 14 (.mv 5)) (.p [5] (oj 15 (.ia 10 1 3 14)) (.q [3] (oj 13 (.ld 1 false 12)) (.q [6] (oj 16 (.ld 1 false 15)) (.p [7] (oj 17 (.bin .add 13 16)) (.p [8] (oj 18 (.ia 10 1 2 10)) (.e 9 (oe (.st 1 18 17)) .nil))))))))))
def k194_1:IC:=(.draw r194_4 [9])
def r194_3:List J:=[oj 8 (.mv 5),oj 9 (.bin .add 8 (ci 1)),oj 5 (.mv 9)]
def l194_1:IC:=(.seq (.seq (.ops r194_2) (.cond 7 .skip (.exit 0))) (.seq (.block 1 k194_1) (.ops r194_3)))
def k194_0:IC:=(.loop l194_1)
def r194_5:List J:=[oj 19 (.ld 10 true 2),oj 20 (.call 172 [19]),on_ (.st 10 4 20)]
def d194:FnD:=⟨21,[.cell 4 10 true],(.seq (.ops r194_0) (.seq (.seq (.ops r194_1) (.block 0 k194_0)) (.seq (.ops r194_5) .ret)))⟩
theorem ok194:okF Tryz.prog 194 d194=true:=by kernel_rfl
def r193_0:List J:=[oj 2 (.bx 88 0),oj 3 (.bx 88 1),oj 4 (.al 88 [Z10])]
def r193_1:Sch:=(.q [0] (oj 5 (.ld 10 true 2)) (.q [1] (oj 6 (.ld 10 true 3)) (.p [2] (oj 7 (.call 142 [6])) (.p [3] (oj 8 (.call 194 [5,7])) (.e 4 (oe (.st 10 4 8)) .nil)))))
def d193:FnD:=⟨9,[.cell 4 10 true],(.seq (.ops r193_0) (.seq (.draw r193_1 [4]) .ret))⟩
theorem ok193:okF Tryz.prog 193 d193=true:=by kernel_rfl
def r139_0:List J:=[oj 1 (.bx 22 0),oj 2 (.al 88 [Z10])]
def r139_1:List J:=[oj 3 (.al 88 [Z10])]
def r139_2:List J:=[oj 4 (.mv (ci 0))]
def r139_3:List J:=[oj 6 (.mv 4),oj 7 (.bin .lss 6 (ci 255))]
def r139_5:List J:=[oj 10 (.mv 4),oj 11 (.bin .quo 10 (ci 8)),oj 12 (.ia 32 1 1 11),oj 13 (.ld 1 false 12),oj 14 (.mv 4),oj 15 (.bin .rem 14 (ci 8)),oj 16 (.bin .shr 13 15),oj 17 (.bin .and 16 (.const (.int .u8 1))),oj 18 (.conv .u64 17),oj 5 (.mv 18)]
def r139_6:Sch:=(.p [0] (oj 19 (.mv 4)) (.p [1] (oj 20 (.bin .quo 19 (ci 26))) (.p [2] (oj 21 (.mv 4)) (.p [3] (oj 22 (.bin .quo 21 (ci 26))) (.p [4] (oj 23 (.ia 10 1 3 22)) (.p [6] (oj 25 (.mv 5)) (.p [7] (oj 26 (.mv 4)) (.p [8] (oj 27 (.bin .rem 26 (ci 26))) (.p [9] (oj 28 (.bin .shl 25 27)) (.q [5] (oj 24 (.ld 1 false 23)) (.p [10] (oj 29 (.bin .add 24 28)) (.p [11] (oj 30 (.ia 10 1 3 20)) (.e 12 (oe (.st 1 30 29)) .nil)))))))))))))
def k139_1:IC:=(.seq (.ops r139_5) (.draw r139_6 [12]))
def r139_4:List J:=[oj 8 (.mv 4),oj 9 (.bin .add 8 (ci 1)),oj 4 (.mv 9)]
def l139_1:IC:=(.seq (.seq (.ops r139_3) (.cond 7 .skip (.exit 0))) (.seq (.block 1 k139_1) (.ops r139_4)))
def k139_0:IC:=(.loop l139_1)
def r139_7:List J:=[oj 31 (.ld 10 true 3),oj 32 (.call 172 [31]),on_ (.st 10 2 32)]
def d139:FnD:=⟨33,[.cell 2 10 true],(.seq (.ops r139_0) (.seq (.ops r139_1) (.seq (.seq (.ops r139_2) (.block 0 k139_0)) (.seq (.ops r139_7) .ret))))⟩
theorem ok139:okF Tryz.prog 139 d139=true:=by kernel_rfl
def r195_0:List J:=[oj 0 (.al 88 [Z10])]
def r195_1:List J:=[oj 1 (.bd [.ints .u8 32 (List.replicate 32 0)] [(0,1,(.const (.int .u8 163))),(1,1,(.const (.int .u8 120))),(2,1,(.const (.int .u8 89))),(3,1,(.const (.int .u8 19))),(4,1,(.const (.int .u8 202))),(5,1,(.const (.int .u8 77))),(6,1,(.const (.int .u8 235))),(7,1,(.const (.int .u8 117))),(8,1,(.const (.int .u8 171))),(9,1,(.const (.int .u8 216))),(10,1,(.const (.int .u8 65))),(11,1,(.const (.int .u8 65))),(12,1,(.const (.int .u8 77))),(13,1,(.const (.int .u8 10))),(14,1,(.const (.int .u8 112))),(15,1,(.const (.int .u8 0))),(16,1,(.const (.int .u8 152))),(17,1,(.const (.int .u8 232))),(18,1,(.const (.int .u8 121))),(19,1,(.const (.int .u8 119))),(20,1,(.const (.int .u8 121))),(21,1,(.const (.int .u8 64))),(22,1,(.const (.int .u8 199))),(23,1,(.const (.int .u8 140))),(24,1,(.const (.int .u8 115))),(25,1,(.const (.int .u8 254))),(26,1,(.const (.int .u8 111))),(27,1,(.const (.int .u8 43))),(28,1,(.const (.int .u8 238))),(29,1,(.const (.int .u8 108))),(30,1,(.const (.int .u8 3))),(31,1,(.const (.int .u8 82)))]),oj 2 (.call 139 [1]),on_ (.st 10 0 2)]
def d195:FnD:=⟨3,[.cell 0 10 true],(.seq (.ops r195_0) (.seq (.ops r195_1) .ret))⟩
theorem ok195:okF Tryz.prog 195 d195=true:=by kernel_rfl
def r146_0:List J:=[oj 2 (.bx 90 0),oj 3 (.bx 90 1),oj 4 (.al 90 [Z10,Z10,Z10])]
def r146_1:List J:=[oj 15 (.fa 20 2),oj 16 (.ld 10 true 15),oj 17 (.fa 20 3),oj 18 (.ld 10 true 17),oj 19 (.call 104 [16,18]),oj 5 (.al 88 [Z10]),on_ (.st 10 5 19)]
def r146_2:List J:=[oj 20 (.ld 10 true 5),oj 21 (.ld 10 true 5),oj 22 (.call 104 [20,21]),oj 6 (.al 88 [Z10]),on_ (.st 10 6 22)]
def r146_3:List J:=[oj 23 (.fa 0 2),oj 24 (.ld 10 true 23),oj 25 (.fa 0 3),oj 26 (.ld 10 true 25),oj 27 (.call 104 [24,26]),oj 7 (.al 88 [Z10]),on_ (.st 10 7 27)]
def r146_4:List J:=[oj 28 (.fa 10 2),oj 29 (.ld 10 true 28),oj 30 (.fa 10 3),oj 31 (.ld 10 true 30),oj 32 (.call 104 [29,31]),oj 8 (.al 88 [Z10]),on_ (.st 10 8 32)]
def r146_5:Sch:=(.p [0] (oj 33 (.call 195 [])) (.q [1] (oj 34 (.ld 10 true 7)) (.q [2] (oj 35 (.ld 10 true 8)) (.p [3] (oj 36 (.call 104 [34,35])) (.p [4] (oj 37 (.call 104 [33,36])) (.e 5 (oi 9 (.al 88 [Z10])) (.e 6 (oe (.st 10 9 37)) .nil)))))))
def r146_6:List J:=[oj 38 (.ld 10 true 6),oj 39 (.ld 10 true 9),oj 40 (.call 193 [38,39]),oj 10 (.al 88 [Z10]),on_ (.st 10 10 40)]
def r146_7:List J:=[oj 41 (.ld 10 true 6),oj 42 (.ld 10 true 9),oj 43 (.call 194 [41,42]),oj 11 (.al 88 [Z10]),on_ (.st 10 11 43)]
def r146_8:Sch:=(.p [0] (oj 44 (.fa 0 2)) (.p [2] (oj 46 (.fa 10 3)) (.p [5] (oj 49 (.fa 10 2)) (.p [7] (oj 51 (.fa 0 3)) (.q [1] (oj 45 (.ld 10 true 44)) (.q [3] (oj 47 (.ld 10 true 46)) (.p [4] (oj 48 (.call 104 [45,47])) (.q [6] (oj 50 (.ld 10 true 49)) (.q [8] (oj 52 (.ld 10 true 51)) (.p [9] (oj 53 (.call 104 [50,52])) (.p [10] (oj 54 (.call 194 [48,53])) (.e 11 (oi 12 (.al 88 [Z10])) (.e 12 (oe (.st 10 12 54)) .nil)))))))))))))
def r146_9:Sch:=(.q [0] (oj 55 (.ld 10 true 5)) (.q [1] (oj 56 (.ld 10 true 10)) (.p [2] (oj 57 (.call 104 [55,56])) (.q [3] (oj 58 (.ld 10 true 12)) (.p [4] (oj 59 (.call 104 [57,58])) (.e 5 (oi 13 (.al 88 [Z10])) (.e 6 (oe (.st 10 13 59)) .nil)))))))
def r146_10:Sch:=(.q [0] (oj 60 (.ld 10 true 5)) (.q [1] (oj 61 (.ld 10 true 11)) (.p [2] (oj 62 (.call 104 [60,61])) (.q [3] (oj 63 (.ld 10 true 8)) (.q [4] (oj 64 (.ld 10 true 7)) (.p [5] (oj 65 (.call 194 [63,64])) (.p [6] (oj 66 (.call 104 [62,65])) (.e 7 (oi 14 (.al 88 [Z10])) (.e 8 (oe (.st 10 14 66)) .nil)))))))))
def r146_11:Sch:=(.q [0] (oj 67 (.ld 10 true 13)) (.q [1] (oj 68 (.ld 10 true 14)) (.q [2] (oj 69 (.ld 10 true 10)) (.q [3] (oj 70 (.ld 10 true 11)) (.p [4] (oj 71 (.call 104 [69,70])) (.p [5] (oj 72 (.bd [Z10,Z10,Z10] [(0,10,67),(10,10,68),(20,10,71)])) (.e 6 (oe (.st 30 4 72)) .nil)))))))
def d146:FnD:=⟨73,[.cell 4 30 true],(.seq (.ops r146_0) (.seq (.ops r146_1) (.seq (.ops r146_2) (.seq (.ops r146_3) (.seq (.ops r146_4) (.seq (.draw r146_5 [6]) (.seq (.ops r146_6) (.seq (.ops r146_7) (.seq (.draw r146_8 [12]) (.seq (.draw r146_9 [6]) (.seq (.draw r146_10 [8]) (.seq (.draw r146_11 [6]) .ret))))))))))))⟩
theorem ok146:okF Tryz.prog 146 d146=true:=by kernel_rfl
def r174_0:List J:=[oj 0 (.al 90 [Z10,Z10,Z10])]
def r174_1:List J:=[oj 1 (.call 176 [(cu 0)]),oj 2 (.call 176 [(cu 1)]),oj 3 (.call 176 [(cu 1)]),oj 4 (.bd [Z10,Z10,Z10] [(0,10,1),(10,10,2),(20,10,3)]),on_ (.st 30 0 4)]
def d174:FnD:=⟨5,[.cell 0 30 true],(.seq (.ops r174_0) (.seq (.ops r174_1) .ret))⟩
theorem ok174:okF Tryz.prog 174 d174=true:=by kernel_rfl
def r173_0:List J:=[oj 1 (.bx 90 0),oj 2 (.al 206 [.rows 30 16 (fun _=>cells [Z10,Z10,Z10])])]
def r173_1:List J:=[oj 3 (.al 206 [.rows 30 16 (fun _=>cells [Z10,Z10,Z10])])]
def r173_2:List J:=[oj 5 (.call 174 []),oj 6 (.ia 16 30 3 (ci 0)),on_ (.st 30 6 5)]
def r173_3:List J:=[oj 4 (.mv (ci 1))]
def r173_4:List J:=[oj 7 (.mv 4),oj 8 (.bin .lss 7 (ci 16))]
def r173_6:Sch:=(.p [0] (oj 11 (.mv 4)) (.p [1] (oj 12 (.mv 4)) (.p [2] (oj 13 (.bin .sub 12 (ci 1))) (.p [3] (oj 14 (.ia 16 30 3 13)) (.q [4] (oj 15 (.ld 30 true 14)) (.q [5] (oj 16 (.ld 30 true 1)) (.p [6] (oj 17 (.call 146 [15,16])) (.p [7] (oj 18 (.ia 16 30 3 11)) (.e 8 (oe (.st 30 18 17)) .nil)))))))))
def k173_1:IC:=(.draw r173_6 [8])
def r173_5:List J:=[oj 9 (.mv 4),oj 10 (.bin .add 9 (ci 1)),oj 4 (.mv 10)]
def l173_1:IC:=(.seq (.seq (.ops r173_4) (.cond 8 .skip (.exit 0))) (.seq (.block 1 k173_1) (.ops r173_5)))
def k173_0:IC:=(.loop l173_1)
def r173_7:List J:=[oj 19 (.ld 480 true 3),on_ (.st 480 2 19)]
def d173:FnD:=⟨20,[.cell 2 480 true],(.seq (.ops r173_0) (.seq (.ops r173_1) (.seq (.ops r173_2) (.seq (.seq (.ops r173_3) (.block 0 k173_0)) (.seq (.ops r173_7) .ret)))))⟩
theorem ok173:okF Tryz.prog 173 d173=true:=by kernel_rfl
def r175_0:List J:=[oj 1 (.bx 90 0),oj 2 (.al 90 [Z10,Z10,Z10])]
def r175_1:List J:=[oj 11 (.fa 0 1),oj 12 (.ld 10 true 11),oj 13 (.fa 0 1),oj 14 (.ld 10 true 13),oj 15 (.call 104 [12,14]),oj 3 (.al 88 [Z10]),on_ (.st 10 3 15)]
def r175_2:List J:=[oj 16 (.fa 10 1),oj 17 (.ld 10 true 16),oj 18 (.fa 10 1),oj 19 (.ld 10 true 18),oj 20 (.call 104 [17,19]),oj 4 (.al 88 [Z10]),on_ (.st 10 4 20)]
def r175_3:List J:=[oj 21 (.fa 20 1),oj 22 (.ld 10 true 21),oj 23 (.fa 20 1),oj 24 (.ld 10 true 23),oj 25 (.call 104 [22,24]),oj 5 (.al 88 [Z10]),on_ (.st 10 5 25)]
def r175_4:List J:=[oj 26 (.ld 10 true 4),oj 27 (.ld 10 true 3),oj 28 (.call 193 [26,27]),oj 6 (.al 88 [Z10]),on_ (.st 10 6 28)]
def r175_5:Sch:=(.q [0] (oj 29 (.ld 10 true 5)) (.q [1] (oj 30 (.ld 10 true 5)) (.p [2] (oj 31 (.call 194 [29,30])) (.q [3] (oj 32 (.ld 10 true 6)) (.p [4] (oj 33 (.call 193 [31,32])) (.e 5 (oi 7 (.al 88 [Z10])) (.e 6 (oe (.st 10 7 33)) .nil)))))))
def r175_6:List J:=[oj 34 (.fa 0 1),oj 35 (.ld 10 true 34),oj 36 (.fa 10 1),oj 37 (.ld 10 true 36),oj 38 (.call 104 [35,37]),oj 8 (.al 88 [Z10]),on_ (.st 10 8 38)]
def r175_7:Sch:=(.q [0] (oj 39 (.ld 10 true 8)) (.q [1] (oj 40 (.ld 10 true 8)) (.p [2] (oj 41 (.call 194 [39,40])) (.q [3] (oj 42 (.ld 10 true 7)) (.p [4] (oj 43 (.call 104 [41,42])) (.e 5 (oi 9 (.al 88 [Z10])) (.e 6 (oe (.st 10 9 43)) .nil)))))))
def r175_8:Sch:=(.q [0] (oj 44 (.ld 10 true 3)) (.q [1] (oj 45 (.ld 10 true 4)) (.p [2] (oj 46 (.call 194 [44,45])) (.q [3] (oj 47 (.ld 10 true 6)) (.p [4] (oj 48 (.call 104 [46,47])) (.e 5 (oi 10 (.al 88 [Z10])) (.e 6 (oe (.st 10 10 48)) .nil)))))))
def r175_9:Sch:=(.q [0] (oj 49 (.ld 10 true 9)) (.q [1] (oj 50 (.ld 10 true 10)) (.q [2] (oj 51 (.ld 10 true 6)) (.q [3] (oj 52 (.ld 10 true 7)) (.p [4] (oj 53 (.call 104 [51,52])) (.p [5] (oj 54 (.bd [Z10,Z10,Z10] [(0,10,49),(10,10,50),(20,10,53)])) (.e 6 (oe (.st 30 2 54)) .nil)))))))
def d175:FnD:=⟨55,[.cell 2 30 true],(.seq (.ops r175_0) (.seq (.ops r175_1) (.seq (.ops r175_2) (.seq (.ops r175_3) (.seq (.ops r175_4) (.seq (.draw r175_5 [6]) (.seq (.ops r175_6) (.seq (.draw r175_7 [6]) (.seq (.draw r175_8 [6]) (.seq (.draw r175_9 [6]) .ret))))))))))⟩
theorem ok175:okF Tryz.prog 175 d175=true:=by kernel_rfl
def r106_0:List J:=[oj 2 (.bx 74 0),oj 3 (.bx 90 1),oj 4 (.al 90 [Z10,Z10,Z10])]
def r106_1:List J:=[oj 8 (.ld 30 true 3),oj 9 (.call 173 [8]),oj 5 (.al 206 [.rows 30 16 (fun _=>cells [Z10,Z10,Z10])]),on_ (.st 480 5 9)]
def r106_2:List J:=[oj 10 (.call 174 []),oj 6 (.al 90 [Z10,Z10,Z10]),on_ (.st 30 6 10)]
def r106_3:List J:=[oj 7 (.mv (ci 31))]
def r106_4:List J:=[oj 11 (.mv 7),oj 12 (.bin .geq 11 (ci 0))]
def r106_6:Sch:=(.p [5] (oj 20 (.mv 7)) (.p [6] (oj 21 (.ia 32 1 2 20)) (.q [0] (oj 15 (.ld 30 true 6)) (.p [1] (oj 16 (.call 175 [15])) (.p [2] (oj 17 (.call 175 [16])) (.p [3] (oj 18 (.call 175 [17])) (.p [4] (oj 19 (.call 175 [18])) (.q [7] (oj 22 (.ld 1 false 21)) (.p [8] (oj 23 (.bin .quo 22 (.const (.int .u8 16)))) (.p [9] (oj 24 (.ia 16 30 5 23)) (.q [10] (oj 25 (.ld 30 true 24)) (.p [11] (oj 26 (.call 146 [19,25])) (.e 12 (oe (.st 30 6 26)) .nil)))))))))))))
def r106_7:Sch:=(.p [5] (oj 32 (.mv 7)) (.p [6] (oj 33 (.ia 32 1 2 32)) (.q [0] (oj 27 (.ld 30 true 6)) (.p [1] (oj 28 (.call 175 [27])) (.p [2] (oj 29 (.call 175 [28])) (.p [3] (oj 30 (.call 175 [29])) (.p [4] (oj 31 (.call 175 [30])) (.q [7] (oj 34 (.ld 1 false 33)) (.p [8] (oj 35 (.bin .rem 34 (.const (.int .u8 16)))) (.p [9] (oj 36 (.ia 16 30 5 35)) (.q [10] (oj 37 (.ld 30 true 36)) (.p [11] (oj 38 (.call 146 [31,37])) (.e 12 (oe (.st 30 6 38)) .nil)))))))))))))
def k106_1:IC:=(.seq (.draw r106_6 [12]) (.draw r106_7 [12]))
def r106_5:List J:=[oj 13 (.mv 7),oj 14 (.bin .sub 13 (ci 1)),oj 7 (.mv 14)]
def l106_1:IC:=(.seq (.seq (.ops r106_4) (.cond 12 .skip (.exit 0))) (.seq (.block 1 k106_1) (.ops r106_5)))
def k106_0:IC:=(.loop l106_1)
def r106_8:List J:=[oj 39 (.ld 30 true 6),on_ (.st 30 4 39)]
def d106:FnD:=⟨40,[.cell 4 30 true],(.seq (.ops r106_0) (.seq (.ops r106_1) (.seq (.ops r106_2) (.seq (.seq (.ops r106_3) (.block 0 k106_0)) (.seq (.ops r106_8) .ret)))))⟩
theorem ok106:okF Tryz.prog 106 d106=true:=by kernel_rfl
def r141_0:List J:=[oj 1 (.bx 88 0),oj 2 (.mv (.const (.bool false)))]
def r141_1:List J:=[oj 3 (.ld 10 true 1),oj 4 (.bd [Z10] []),oj 5 (.eqa false [(.i .u64,10)] 3 4),oj 2 (.mv 5)]
def d141:FnD:=⟨6,[.tmp 2],(.seq (.ops r141_0) (.seq (.ops r141_1) .ret))⟩
theorem ok141:okF Tryz.prog 141 d141=true:=by kernel_rfl
def r217_0:List J:=[oj 1 (.bx 88 0),oj 2 (.al 88 [Z10])]
def r217_1:List J:=[oj 3 (.ld 10 true 1),oj 4 (.call 105 [3])]
def r217_2:List J:=[oj 5 (.ld 10 true 1),oj 6 (.call 142 [5]),on_ (.st 10 2 6)]
def r217_3:List J:=[oj 7 (.ld 10 true 1),on_ (.st 10 2 7)]
def d217:FnD:=⟨8,[.cell 2 10 true],(.seq (.ops r217_0) (.seq (.seq (.ops r217_1) (.cond 4 (.seq (.ops r217_2) .ret) .skip)) (.seq (.ops r217_3) .ret)))⟩
theorem ok217:okF Tryz.prog 217 d217=true:=by kernel_rfl
def r196_0:List J:=[oj 2 (.bx 88 0),oj 3 (.bx 88 1),oj 4 (.al 88 [Z10]),oj 5 (.mv (.const (.bool false)))]
def r196_1:List J:=[oj 8 (.ld 10 true 3),oj 9 (.call 141 [8])]
def r196_2:List J:=[oj 10 (.bd [Z10] []),oj 11 (.ld 10 true 2),oj 12 (.call 141 [11]),on_ (.st 10 4 10),oj 5 (.mv 12)]
def r196_3:Sch:=(.q [0] (oj 13 (.ld 10 true 2)) (.q [1] (oj 14 (.ld 10 true 3)) (.p [2] (oj 15 (.call 102 [14])) (.p [3] (oj 16 (.call 104 [13,15])) (.e 4 (oi 6 (.al 88 [Z10])) (.e 5 (oe (.st 10 6 16)) .nil))))))
def r196_4:Sch:=(.p [1] (oj 18 (.call 171 [(.const (.int .u8 254)),(.const (.int .u8 15))])) (.q [0] (oj 17 (.ld 10 true 6)) (.p [2] (oj 19 (.call 170 [17,18])) (.e 3 (oi 7 (.al 88 [Z10])) (.e 4 (oe (.st 10 7 19)) .nil)))))
def r196_5:Sch:=(.q [0] (oj 20 (.ld 10 true 7)) (.q [1] (oj 21 (.ld 10 true 7)) (.p [2] (oj 22 (.call 104 [20,21])) (.q [3] (oj 23 (.ld 10 true 6)) (.p [4] (oj 24 (.eqa false [(.i .u64,10)] 22 23)) .nil)))))
def r196_6:List J:=[oj 25 (.ld 10 true 7),oj 26 (.call 217 [25]),on_ (.st 10 4 26),oj 5 (.mv (.const (.bool true)))]
def r196_7:Sch:=(.p [1] (oj 28 (.call 176 [(cu 2)])) (.p [2] (oj 29 (.call 171 [(.const (.int .u8 251)),(.const (.int .u8 31))])) (.p [3] (oj 30 (.call 170 [28,29])) (.q [0] (oj 27 (.ld 10 true 7)) (.p [4] (oj 31 (.call 104 [27,30])) (.e 5 (oe (.st 10 7 31)) .nil))))))
def r196_8:Sch:=(.q [0] (oj 32 (.ld 10 true 7)) (.q [1] (oj 33 (.ld 10 true 7)) (.p [2] (oj 34 (.call 104 [32,33])) (.q [3] (oj 35 (.ld 10 true 6)) (.p [4] (oj 36 (.eqa false [(.i .u64,10)] 34 35)) .nil)))))
def r196_9:List J:=[oj 37 (.ld 10 true 7),oj 38 (.call 217 [37]),on_ (.st 10 4 38),oj 5 (.mv (.const (.bool true)))]
def r196_10:List J:=[oj 39 (.bd [Z10] []),on_ (.st 10 4 39),oj 5 (.mv (.const (.bool false)))]
def d196:FnD:=⟨40,[.cell 4 10 true,.tmp 5],(.seq (.ops r196_0) (.seq (.seq (.ops r196_1) (.cond 9 (.seq (.ops r196_2) .ret) .skip)) (.seq (.draw r196_3 [5]) (.seq (.draw r196_4 [4]) (.seq (.seq (.draw r196_5 []) (.cond 24 (.seq (.ops r196_6) .ret) .skip)) (.seq (.draw r196_7 [5]) (.seq (.seq (.draw r196_8 []) (.cond 36 (.seq (.ops r196_9) .ret) .skip)) (.seq (.ops r196_10) .ret))))))))⟩
theorem ok196:okF Tryz.prog 196 d196=true:=by kernel_rfl
def r140_0:List J:=[oj 1 (.bx 88 0),oj 2 (.al 88 [Z10]),oj 3 (.mv (.const (.bool false)))]
def r140_1:List J:=[oj 7 (.ld 10 true 1),oj 8 (.ld 10 true 1),oj 9 (.call 104 [7,8]),oj 4 (.al 88 [Z10]),on_ (.st 10 4 9)]
def r140_2:Sch:=(.p [1] (oj 11 (.call 176 [(cu 1)])) (.q [0] (oj 10 (.ld 10 true 4)) (.p [2] (oj 12 (.call 193 [10,11])) (.e 3 (oi 5 (.al 88 [Z10])) (.e 4 (oe (.st 10 5 12)) .nil)))))
def r140_3:Sch:=(.p [0] (oj 13 (.call 195 [])) (.q [1] (oj 14 (.ld 10 true 4)) (.p [2] (oj 15 (.call 104 [13,14])) (.p [3] (oj 16 (.call 176 [(cu 1)])) (.p [4] (oj 17 (.call 194 [15,16])) (.e 5 (oi 6 (.al 88 [Z10])) (.e 6 (oe (.st 10 6 17)) .nil)))))))
def r140_4:List J:=[oj 18 (.ld 10 true 5),oj 19 (.ld 10 true 6),oj 20 (.call 196 [18,19]),oj 21 (.ext 20 0),oj 22 (.ext 20 1),on_ (.st 10 2 21),oj 3 (.mv 22)]
def d140:FnD:=⟨23,[.cell 2 10 true,.tmp 3],(.seq (.ops r140_0) (.seq (.ops r140_1) (.seq (.draw r140_2 [4]) (.seq (.draw r140_3 [6]) (.seq (.ops r140_4) .ret)))))⟩
theorem ok140:okF Tryz.prog 140 d140=true:=by kernel_rfl
def r143_0:List J:=[oj 2 (.bx 88 0),oj 3 (.bx 88 1),oj 4 (.al 90 [Z10,Z10,Z10])]
def r143_1:Sch:=(.p [2] (oj 7 (.call 176 [(cu 1)])) (.q [0] (oj 5 (.ld 10 true 2)) (.q [1] (oj 6 (.ld 10 true 3)) (.p [3] (oj 8 (.bd [Z10,Z10,Z10] [(0,10,5),(10,10,6),(20,10,7)])) (.e 4 (oe (.st 30 4 8)) .nil)))))
def d143:FnD:=⟨9,[.cell 4 30 true],(.seq (.ops r143_0) (.seq (.draw r143_1 [4]) .ret))⟩
theorem ok143:okF Tryz.prog 143 d143=true:=by kernel_rfl
def r107_0:List J:=[oj 0 (.al 90 [Z10,Z10,Z10])]
def r107_1:List J:=[oj 4 (.call 176 [(cu 4)]),oj 5 (.call 176 [(cu 5)]),oj 6 (.call 102 [5]),oj 7 (.call 104 [4,6]),oj 1 (.al 88 [Z10]),on_ (.st 10 1 7)]
def r107_2:List J:=[oj 9 (.ld 10 true 1),oj 10 (.call 140 [9]),oj 8 (.mv 10),oj 11 (.ext 8 0),oj 12 (.ext 8 1),oj 2 (.al 88 [Z10]),on_ (.st 10 2 11),oj 3 (.mv 12)]
def r107_3:List J:=[oj 13 (.ld 10 true 2),oj 14 (.ld 10 true 1),oj 15 (.call 143 [13,14]),on_ (.st 30 0 15)]
def d107:FnD:=⟨16,[.cell 0 30 true],(.seq (.ops r107_0) (.seq (.ops r107_1) (.seq (.ops r107_2) (.seq (.ops r107_3) .ret))))⟩
theorem ok107:okF Tryz.prog 107 d107=true:=by kernel_rfl
def r55_0:List J:=[oj 1 (.bx 74 0),oj 2 (.al 90 [Z10,Z10,Z10])]
def r55_1:Sch:=(.p [1] (oj 4 (.call 107 [])) (.q [0] (oj 3 (.ld 32 true 1)) (.p [2] (oj 5 (.call 106 [3,4])) (.e 3 (oe (.st 30 2 5)) .nil))))
def d55:FnD:=⟨6,[.cell 2 30 true],(.seq (.ops r55_0) (.seq (.draw r55_1 [3]) .ret))⟩
theorem ok55:okF Tryz.prog 55 d55=true:=by kernel_rfl
def r57_0:List J:=[oj 2 (.bx 94 0),oj 4 (.al 22 [.ints .u8 32 (List.replicate 32 0)])]
def r57_1:List J:=[oj 5 (.al 22 [.ints .u8 32 (List.replicate 32 0)])]
def r57_2:List J:=[oj 6 (.mv (ci 0))]
def r57_3:List J:=[oj 7 (.mv 6),oj 8 (.bin .lss 7 (ci 32))]
def r57_5:List J:=[oj 11 (.mv 6),oj 12 (.mv 6),oj 13 (.ia 64 1 2 12),oj 14 (.ld 1 false 13),oj 15 (.ia 32 1 5 11),on_ (.st 1 15 14)]
def r57_6:List J:=[oj 16 (.mv 1)]
def r57_7:List J:=[oj 17 (.mv 6),oj 18 (.mv 6),oj 19 (.bin .add (ci 32) 18),oj 20 (.ia 64 1 2 19),oj 21 (.ld 1 false 20),oj 22 (.ia 32 1 5 17),on_ (.st 1 22 21)]
def k57_1:IC:=(.seq (.ops r57_5) (.seq (.ops r57_6) (.cond 16 (.ops r57_7) .skip)))
def r57_4:List J:=[oj 9 (.mv 6),oj 10 (.bin .add 9 (ci 1)),oj 6 (.mv 10)]
def l57_1:IC:=(.seq (.seq (.ops r57_3) (.cond 8 .skip (.exit 0))) (.seq (.block 1 k57_1) (.ops r57_4)))
def k57_0:IC:=(.loop l57_1)
def r57_8:List J:=[oj 23 (.ld 32 true 5),on_ (.st 32 4 23)]
def d57:FnD:=⟨24,[.cell 4 32 true],(.seq (.ops r57_0) (.seq (.ops r57_1) (.seq (.seq (.ops r57_2) (.block 0 k57_0)) (.seq (.ops r57_8) .ret))))⟩
theorem ok57:okF Tryz.prog 57 d57=true:=by kernel_rfl
def r111_0:List J:=[oj 2 (.mv (.const (.slice none 0 0)))]
def r111_1:List J:=[oj 3 (.mv (.const (.slice none 0 0)))]
def r111_2:List J:=[oj 4 (.mv (ci 0))]
def r111_3:List J:=[oj 6 (.mv 4),oj 7 (.bin .lss 6 (ci 8))]
def r111_5:List J:=[oj 10 (.mv 4),oj 11 (.bin .mul (ci 8) 10),oj 12 (.bin .sub (ci 56) 11),oj 13 (.conv .u64 12),oj 5 (.mv 13)]
def r111_6:List J:=[oj 14 (.mv 3),oj 15 (.mv 0),oj 16 (.mv 5),oj 17 (.bin .shr 15 16),oj 18 (.conv .u8 17),oj 19 (.bs 5 1 1 [.one (.int .u8 0)] [(0,1,18)]),oj 20 (.app 5 1 1 [.one (.int .u8 0)] 14 19),oj 3 (.mv 20)]
def k111_1:IC:=(.seq (.ops r111_5) (.ops r111_6))
def r111_4:List J:=[oj 8 (.mv 4),oj 9 (.bin .add 8 (ci 1)),oj 4 (.mv 9)]
def l111_1:IC:=(.seq (.seq (.ops r111_3) (.cond 7 .skip (.exit 0))) (.seq (.block 1 k111_1) (.ops r111_4)))
def k111_0:IC:=(.loop l111_1)
def r111_7:List J:=[oj 21 (.mv 3),oj 2 (.mv 21)]
def d111:FnD:=⟨22,[.tmp 2],(.seq (.ops r111_0) (.seq (.ops r111_1) (.seq (.seq (.ops r111_2) (.block 0 k111_0)) (.seq (.ops r111_7) .ret))))⟩
theorem ok111:okF Tryz.prog 111 d111=true:=by kernel_rfl
def r109_0:List J:=[oj 2 (.mv (.const (.slice none 0 0)))]
def r109_1:List J:=[oj 5 (.bs 5 1 1 [.one (.int .u8 0)] [(0,1,(.const (.int .u8 128)))]),oj 3 (.mv 5)]
def r109_2:List J:=[oj 6 (.mv 0),oj 7 (.bin .rem 6 (cu 128)),oj 8 (.conv .i64 7),oj 4 (.mv 8)]
def r109_3:List J:=[oj 9 (.mv 4),oj 10 (.mv 3),oj 11 (.len 10),oj 12 (.bin .add 9 11),oj 13 (.bin .add 12 (ci 16)),oj 14 (.bin .rem 13 (ci 128)),oj 15 (.bin .neq 14 (ci 0))]
def r109_4:List J:=[oj 16 (.mv 3),oj 17 (.bs 5 1 1 [.one (.int .u8 0)] [(0,1,(.const (.int .u8 0)))]),oj 18 (.app 5 1 1 [.one (.int .u8 0)] 16 17),oj 3 (.mv 18)]
def k109_1:IC:=(.ops r109_4)
def l109_1:IC:=(.seq (.seq (.ops r109_3) (.cond 15 .skip (.exit 0))) (.block 1 k109_1))
def k109_0:IC:=(.loop l109_1)
def r109_5:List J:=[oj 19 (.mv 3),oj 20 (.mv 0),oj 21 (.bin .quo 20 (cu 2305843009213693952)),oj 22 (.call 111 [21]),oj 23 (.app 5 1 1 [.one (.int .u8 0)] 19 22),oj 3 (.mv 23)]
def r109_6:List J:=[oj 24 (.mv 3),oj 25 (.mv 0),oj 26 (.bin .mul 25 (cu 8)),oj 27 (.call 111 [26]),oj 28 (.app 5 1 1 [.one (.int .u8 0)] 24 27),oj 2 (.mv 28)]
def d109:FnD:=⟨29,[.tmp 2],(.seq (.ops r109_0) (.seq (.ops r109_1) (.seq (.ops r109_2) (.seq (.block 0 k109_0) (.seq (.ops r109_5) (.seq (.ops r109_6) .ret))))))⟩
theorem ok109:okF Tryz.prog 109 d109=true:=by kernel_rfl
def r209_0:List J:=[oj 2 (.mv (cu 0))]
def r209_1:List J:=[oj 3 (.mv (cu 0))]
def r209_2:List J:=[oj 4 (.mv (ci 0))]
def r209_3:List J:=[oj 5 (.mv 4),oj 6 (.bin .lss 5 (ci 8))]
def r209_5:List J:=[oj 9 (.mv 3),oj 10 (.bin .mul 9 (cu 256)),oj 11 (.mv 0),oj 12 (.mv 4),oj 13 (.ias 1 11 12),oj 14 (.ld 1 false 13),oj 15 (.conv .u64 14),oj 16 (.bin .add 10 15),oj 3 (.mv 16)]
def k209_1:IC:=(.ops r209_5)
def r209_4:List J:=[oj 7 (.mv 4),oj 8 (.bin .add 7 (ci 1)),oj 4 (.mv 8)]
def l209_1:IC:=(.seq (.seq (.ops r209_3) (.cond 6 .skip (.exit 0))) (.seq (.block 1 k209_1) (.ops r209_4)))
def k209_0:IC:=(.loop l209_1)
def r209_6:List J:=[oj 17 (.mv 3),oj 2 (.mv 17)]
def d209:FnD:=⟨18,[.tmp 2],(.seq (.ops r209_0) (.seq (.ops r209_1) (.seq (.seq (.ops r209_2) (.block 0 k209_0)) (.seq (.ops r209_6) .ret))))⟩
theorem ok209:okF Tryz.prog 209 d209=true:=by kernel_rfl
def r212_0:List J:=[oj 4 (.mv (cu 0))]
def r212_1:List J:=[oj 5 (.mv 0),oj 6 (.mv 1),oj 7 (.bin .shr 5 6),oj 8 (.mv 0),oj 9 (.mv 1),oj 10 (.bin .sub (cu 64) 9),oj 11 (.bin .shl 8 10),oj 12 (.bin .or 7 11),oj 4 (.mv 12)]
def d212:FnD:=⟨13,[.tmp 4],(.seq (.ops r212_0) (.seq (.ops r212_1) .ret))⟩
theorem ok212:okF Tryz.prog 212 d212=true:=by kernel_rfl
def r210_0:List J:=[oj 2 (.mv (cu 0))]
def r210_1:List J:=[oj 3 (.mv 0),oj 4 (.call 212 [3,(cu 19)]),oj 5 (.mv 0),oj 6 (.call 212 [5,(cu 61)]),oj 7 (.bin .xor 4 6),oj 8 (.mv 0),oj 9 (.bin .shr 8 (cu 6)),oj 10 (.bin .xor 7 9),oj 2 (.mv 10)]
def d210:FnD:=⟨11,[.tmp 2],(.seq (.ops r210_0) (.seq (.ops r210_1) .ret))⟩
theorem ok210:okF Tryz.prog 210 d210=true:=by kernel_rfl
def r211_0:List J:=[oj 2 (.mv (cu 0))]
def r211_1:List J:=[oj 3 (.mv 0),oj 4 (.call 212 [3,(cu 1)]),oj 5 (.mv 0),oj 6 (.call 212 [5,(cu 8)]),oj 7 (.bin .xor 4 6),oj 8 (.mv 0),oj 9 (.bin .shr 8 (cu 7)),oj 10 (.bin .xor 7 9),oj 2 (.mv 10)]
def d211:FnD:=⟨11,[.tmp 2],(.seq (.ops r211_0) (.seq (.ops r211_1) .ret))⟩
theorem ok211:okF Tryz.prog 211 d211=true:=by kernel_rfl
def r177_0:List J:=[oj 2 (.mv (.const (.slice none 0 0)))]
def r177_1:List J:=[oj 3 (.mv (.const (.slice none 0 0)))]
def r177_2:List J:=[oj 4 (.mv (ci 0))]
def r177_3:List J:=[oj 6 (.mv 4),oj 7 (.bin .lss 6 (ci 16))]
def r177_5:List J:=[oj 10 (.mv 3),oj 11 (.mv 0),oj 12 (.mv 4),oj 13 (.bin .mul (ci 8) 12),oj 14 (.mv 4),oj 15 (.bin .mul (ci 8) 14),oj 16 (.bin .add 15 (ci 8)),oj 17 (.sls 1 11 (some 13) (some 16) none),oj 18 (.call 209 [17]),oj 19 (.bs 78 1 1 [.one (.int .u64 0)] [(0,1,18)]),oj 20 (.app 78 1 8 [.one (.int .u64 0)] 10 19),oj 3 (.mv 20)]
def k177_1:IC:=(.ops r177_5)
def r177_4:List J:=[oj 8 (.mv 4),oj 9 (.bin .add 8 (ci 1)),oj 4 (.mv 9)]
def l177_1:IC:=(.seq (.seq (.ops r177_3) (.cond 7 .skip (.exit 0))) (.seq (.block 1 k177_1) (.ops r177_4)))
def k177_0:IC:=(.loop l177_1)
def r177_6:List J:=[oj 5 (.mv (ci 16))]
def r177_7:List J:=[oj 21 (.mv 5),oj 22 (.bin .lss 21 (ci 80))]
def r177_9:Sch:=(.p [0] (oj 25 (.mv 3)) (.p [1] (oj 26 (.mv 3)) (.p [2] (oj 27 (.mv 5)) (.p [3] (oj 28 (.bin .sub 27 (ci 2))) (.p [4] (oj 29 (.ias 1 26 28)) (.p [7] (oj 32 (.mv 3)) (.p [8] (oj 33 (.mv 5)) (.p [9] (oj 34 (.bin .sub 33 (ci 7))) (.p [10] (oj 35 (.ias 1 32 34)) (.p [13] (oj 38 (.mv 3)) (.p [14] (oj 39 (.mv 5)) (.p [15] (oj 40 (.bin .sub 39 (ci 15))) (.p [16] (oj 41 (.ias 1 38 40)) (.p [20] (oj 45 (.mv 3)) (.p [21] (oj 46 (.mv 5)) (.p [22] (oj 47 (.bin .sub 46 (ci 16))) (.p [23] (oj 48 (.ias 1 45 47)) (.q [5] (oj 30 (.ld 1 false 29)) (.p [6] (oj 31 (.call 210 [30])) (.q [11] (oj 36 (.ld 1 false 35)) (.p [12] (oj 37 (.bin .add 31 36)) (.q [17] (oj 42 (.ld 1 false 41)) (.p [18] (oj 43 (.call 211 [42])) (.p [19] (oj 44 (.bin .add 37 43)) (.q [24] (oj 49 (.ld 1 false 48)) (.p [25] (oj 50 (.bin .add 44 49)) (.e 26 (oi 51 (.bs 78 1 1 [.one (.int .u64 0)] [(0,1,50)])) (.e 27 (oi 52 (.app 78 1 8 [.one (.int .u64 0)] 25 51)) (.p [28] (oj 3 (.mv 52)) .nil)))))))))))))))))))))))))))))
def k177_3:IC:=(.draw r177_9 [27])
def r177_8:List J:=[oj 23 (.mv 5),oj 24 (.bin .add 23 (ci 1)),oj 5 (.mv 24)]
def l177_2:IC:=(.seq (.seq (.ops r177_7) (.cond 22 .skip (.exit 2))) (.seq (.block 3 k177_3) (.ops r177_8)))
def k177_2:IC:=(.loop l177_2)
def r177_10:List J:=[oj 53 (.mv 3),oj 2 (.mv 53)]
def d177:FnD:=⟨54,[.tmp 2],(.seq (.ops r177_0) (.seq (.ops r177_1) (.seq (.seq (.ops r177_2) (.block 0 k177_0)) (.seq (.seq (.ops r177_6) (.block 2 k177_2)) (.seq (.ops r177_10) .ret)))))⟩
theorem ok177:okF Tryz.prog 177 d177=true:=by kernel_rfl
def r178_0:List J:=[oj 3 (.bx 144 0),oj 6 (.al 144 [.ints .u64 8 (List.replicate 8 0)])]
def r178_1:List J:=[oj 13 (.ia 8 1 3 (ci 4)),oj 14 (.ld 1 false 13),oj 7 (.mv 14)]
def r178_2:List J:=[oj 15 (.ia 8 1 3 (ci 0)),oj 16 (.ld 1 false 15),oj 8 (.mv 16)]
def r178_3:List J:=[oj 17 (.mv 7),oj 18 (.ia 8 1 3 (ci 5)),oj 19 (.ld 1 false 18),oj 20 (.bin .and 17 19),oj 21 (.mv 7),oj 22 (.un .xor 21),oj 23 (.ia 8 1 3 (ci 6)),oj 24 (.ld 1 false 23),oj 25 (.bin .and 22 24),oj 26 (.bin .xor 20 25),oj 9 (.mv 26)]
def r178_4:List J:=[oj 27 (.mv 8),oj 28 (.ia 8 1 3 (ci 1)),oj 29 (.ld 1 false 28),oj 30 (.bin .and 27 29),oj 31 (.mv 8),oj 32 (.ia 8 1 3 (ci 2)),oj 33 (.ld 1 false 32),oj 34 (.bin .and 31 33),oj 35 (.bin .xor 30 34),oj 36 (.ia 8 1 3 (ci 1)),oj 37 (.ld 1 false 36),oj 38 (.ia 8 1 3 (ci 2)),oj 39 (.ld 1 false 38),oj 40 (.bin .and 37 39),oj 41 (.bin .xor 35 40),oj 10 (.mv 41)]
def r178_5:Sch:=(.p [0] (oj 42 (.ia 8 1 3 (ci 7))) (.p [2] (oj 44 (.mv 7)) (.p [3] (oj 45 (.call 212 [44,(cu 14)])) (.p [4] (oj 46 (.mv 7)) (.p [5] (oj 47 (.call 212 [46,(cu 18)])) (.p [6] (oj 48 (.bin .xor 45 47)) (.p [7] (oj 49 (.mv 7)) (.p [8] (oj 50 (.call 212 [49,(cu 41)])) (.p [9] (oj 51 (.bin .xor 48 50)) (.p [11] (oj 53 (.mv 9)) (.p [13] (oj 55 (.mv 1)) (.p [15] (oj 57 (.mv 2)) (.q [1] (oj 43 (.ld 1 false 42)) (.p [10] (oj 52 (.bin .add 43 51)) (.p [12] (oj 54 (.bin .add 52 53)) (.p [14] (oj 56 (.bin .add 54 55)) (.p [16] (oj 58 (.bin .add 56 57)) (.p [17] (oj 11 (.mv 58)) .nil))))))))))))))))))
def r178_6:List J:=[oj 59 (.mv 8),oj 60 (.call 212 [59,(cu 28)]),oj 61 (.mv 8),oj 62 (.call 212 [61,(cu 34)]),oj 63 (.bin .xor 60 62),oj 64 (.mv 8),oj 65 (.call 212 [64,(cu 39)]),oj 66 (.bin .xor 63 65),oj 67 (.mv 10),oj 68 (.bin .add 66 67),oj 12 (.mv 68)]
def r178_7:List J:=[oj 69 (.mv 11),oj 70 (.mv 12),oj 71 (.bin .add 69 70),oj 72 (.ia 8 1 3 (ci 0)),oj 73 (.ld 1 false 72),oj 74 (.ia 8 1 3 (ci 1)),oj 75 (.ld 1 false 74),oj 76 (.ia 8 1 3 (ci 2)),oj 77 (.ld 1 false 76),oj 78 (.ia 8 1 3 (ci 3)),oj 79 (.ld 1 false 78),oj 80 (.mv 11),oj 81 (.bin .add 79 80),oj 82 (.ia 8 1 3 (ci 4)),oj 83 (.ld 1 false 82),oj 84 (.ia 8 1 3 (ci 5)),oj 85 (.ld 1 false 84),oj 86 (.ia 8 1 3 (ci 6)),oj 87 (.ld 1 false 86),oj 88 (.bd [.ints .u64 8 (List.replicate 8 0)] [(0,1,71),(1,1,73),(2,1,75),(3,1,77),(4,1,81),(5,1,83),(6,1,85),(7,1,87)]),on_ (.st 8 6 88)]
def d178:FnD:=⟨89,[.cell 6 8 true],(.seq (.ops r178_0) (.seq (.ops r178_1) (.seq (.ops r178_2) (.seq (.ops r178_3) (.seq (.ops r178_4) (.seq (.draw r178_5 []) (.seq (.ops r178_6) (.seq (.ops r178_7) .ret))))))))⟩
theorem ok178:okF Tryz.prog 178 d178=true:=by kernel_rfl
def r110_0:List J:=[oj 2 (.bx 144 0),oj 4 (.al 144 [.ints .u64 8 (List.replicate 8 0)])]
def r110_1:List J:=[oj 9 (.mv 1),oj 10 (.call 177 [9]),oj 5 (.mv 10)]
def r110_2:List J:=[oj 11 (.ld 8 true 2),oj 6 (.al 144 [.ints .u64 8 (List.replicate 8 0)]),on_ (.st 8 6 11)]
def r110_3:List J:=[oj 7 (.mv (ci 0))]
def r110_4:List J:=[oj 12 (.mv 7),oj 13 (.bin .lss 12 (ci 80))]
def r110_6:Sch:=(.p [1] (oj 17 (.mv 7)) (.p [2] (oj 18 (.ia 80 1 (.global 3) 17)) (.p [4] (oj 20 (.mv 5)) (.p [5] (oj 21 (.mv 7)) (.p [6] (oj 22 (.ias 1 20 21)) (.q [0] (oj 16 (.ld 8 true 6)) (.q [3] (oj 19 (.ld 1 false 18)) (.q [7] (oj 23 (.ld 1 false 22)) (.p [8] (oj 24 (.call 178 [16,19,23])) (.e 9 (oe (.st 8 6 24)) .nil))))))))))
def k110_1:IC:=(.draw r110_6 [9])
def r110_5:List J:=[oj 14 (.mv 7),oj 15 (.bin .add 14 (ci 1)),oj 7 (.mv 15)]
def l110_1:IC:=(.seq (.seq (.ops r110_4) (.cond 13 .skip (.exit 0))) (.seq (.block 1 k110_1) (.ops r110_5)))
def k110_0:IC:=(.loop l110_1)
def r110_7:List J:=[oj 8 (.mv (ci 0))]
def r110_8:List J:=[oj 25 (.mv 8),oj 26 (.bin .lss 25 (ci 8))]
def r110_10:Sch:=(.p [0] (oj 29 (.mv 8)) (.p [1] (oj 30 (.mv 8)) (.p [2] (oj 31 (.ia 8 1 6 30)) (.p [4] (oj 33 (.mv 8)) (.p [5] (oj 34 (.ia 8 1 2 33)) (.q [3] (oj 32 (.ld 1 false 31)) (.q [6] (oj 35 (.ld 1 false 34)) (.p [7] (oj 36 (.bin .add 32 35)) (.p [8] (oj 37 (.ia 8 1 6 29)) (.e 9 (oe (.st 1 37 36)) .nil))))))))))
def k110_3:IC:=(.draw r110_10 [9])
def r110_9:List J:=[oj 27 (.mv 8),oj 28 (.bin .add 27 (ci 1)),oj 8 (.mv 28)]
def l110_2:IC:=(.seq (.seq (.ops r110_8) (.cond 26 .skip (.exit 2))) (.seq (.block 3 k110_3) (.ops r110_9)))
def k110_2:IC:=(.loop l110_2)
def r110_11:List J:=[oj 38 (.ld 8 true 6),on_ (.st 8 4 38)]
def d110:FnD:=⟨39,[.cell 4 8 true],(.seq (.ops r110_0) (.seq (.ops r110_1) (.seq (.ops r110_2) (.seq (.seq (.ops r110_3) (.block 0 k110_0)) (.seq (.seq (.ops r110_7) (.block 2 k110_2)) (.seq (.ops r110_11) .ret))))))⟩
theorem ok110:okF Tryz.prog 110 d110=true:=by kernel_rfl
def r58_0:List J:=[oj 2 (.al 94 [.ints .u8 64 (List.replicate 64 0)])]
def r58_1:List J:=[oj 3 (.mv (.const (.slice none 0 0)))]
def r58_2:List J:=[oj 10 (.mv 3),oj 11 (.mv 0),oj 12 (.app 5 1 1 [.one (.int .u8 0)] 10 11),oj 3 (.mv 12)]
def r58_3:List J:=[oj 13 (.mv 3),oj 14 (.mv 0),oj 15 (.len 14),oj 16 (.conv .u64 15),oj 17 (.call 109 [16]),oj 18 (.app 5 1 1 [.one (.int .u8 0)] 13 17),oj 3 (.mv 18)]
def r58_4:List J:=[oj 19 (.ld 8 true (.global 0)),oj 4 (.al 144 [.ints .u64 8 (List.replicate 8 0)]),on_ (.st 8 4 19)]
def r58_5:List J:=[oj 5 (.mv (ci 0))]
def r58_6:List J:=[oj 20 (.mv 5),oj 21 (.mv 3),oj 22 (.len 21),oj 23 (.bin .lss 20 22)]
def r58_8:Sch:=(.p [1] (oj 27 (.mv 3)) (.p [2] (oj 28 (.mv 5)) (.p [3] (oj 29 (.mv 5)) (.p [4] (oj 30 (.bin .add 29 (ci 128))) (.p [5] (oj 31 (.sls 1 27 (some 28) (some 30) none)) (.q [0] (oj 26 (.ld 8 true 4)) (.q [6] (oj 32 (.call 110 [26,31])) (.e 7 (oe (.st 8 4 32)) .nil))))))))
def k58_1:IC:=(.draw r58_8 [7])
def r58_7:List J:=[oj 24 (.mv 5),oj 25 (.bin .add 24 (ci 128)),oj 5 (.mv 25)]
def l58_1:IC:=(.seq (.seq (.ops r58_6) (.cond 23 .skip (.exit 0))) (.seq (.block 1 k58_1) (.ops r58_7)))
def k58_0:IC:=(.loop l58_1)
def r58_9:List J:=[oj 6 (.al 94 [.ints .u8 64 (List.replicate 64 0)])]
def r58_10:List J:=[oj 7 (.mv (ci 0))]
def r58_11:List J:=[oj 33 (.mv 7),oj 34 (.bin .lss 33 (ci 8))]
def r58_13:List J:=[oj 37 (.mv 7),oj 38 (.ia 8 1 4 37),oj 39 (.ld 1 false 38),oj 40 (.call 111 [39]),oj 8 (.mv 40)]
def r58_14:List J:=[oj 9 (.mv (ci 0))]
def r58_15:List J:=[oj 41 (.mv 9),oj 42 (.bin .lss 41 (ci 8))]
def r58_17:List J:=[oj 45 (.mv 7),oj 46 (.bin .mul (ci 8) 45),oj 47 (.mv 9),oj 48 (.bin .add 46 47),oj 49 (.mv 8),oj 50 (.mv 9),oj 51 (.ias 1 49 50),oj 52 (.ld 1 false 51),oj 53 (.ia 64 1 6 48),on_ (.st 1 53 52)]
def k58_5:IC:=(.ops r58_17)
def r58_16:List J:=[oj 43 (.mv 9),oj 44 (.bin .add 43 (ci 1)),oj 9 (.mv 44)]
def l58_3:IC:=(.seq (.seq (.ops r58_15) (.cond 42 .skip (.exit 4))) (.seq (.block 5 k58_5) (.ops r58_16)))
def k58_4:IC:=(.loop l58_3)
def k58_3:IC:=(.seq (.ops r58_13) (.seq (.ops r58_14) (.block 4 k58_4)))
def r58_12:List J:=[oj 35 (.mv 7),oj 36 (.bin .add 35 (ci 1)),oj 7 (.mv 36)]
def l58_2:IC:=(.seq (.seq (.ops r58_11) (.cond 34 .skip (.exit 2))) (.seq (.block 3 k58_3) (.ops r58_12)))
def k58_2:IC:=(.loop l58_2)
def r58_18:List J:=[oj 54 (.ld 64 true 6),on_ (.st 64 2 54)]
def d58:FnD:=⟨55,[.cell 2 64 true],(.seq (.ops r58_0) (.seq (.ops r58_1) (.seq (.ops r58_2) (.seq (.ops r58_3) (.seq (.ops r58_4) (.seq (.seq (.ops r58_5) (.block 0 k58_0)) (.seq (.ops r58_9) (.seq (.seq (.ops r58_10) (.block 2 k58_2)) (.seq (.ops r58_18) .ret)))))))))⟩
theorem ok58:okF Tryz.prog 58 d58=true:=by kernel_rfl
def r108_0:List J:=[oj 1 (.bx 22 0),oj 2 (.al 74 [.ints .u8 32 (List.replicate 32 0)])]
def r108_1:List J:=[oj 3 (.al 74 [.ints .u8 32 (List.replicate 32 0)])]
def r108_2:List J:=[oj 4 (.mv (ci 0))]
def r108_3:List J:=[oj 5 (.mv 4),oj 6 (.bin .lss 5 (ci 32))]
def r108_5:List J:=[oj 9 (.mv 4),oj 10 (.mv 4),oj 11 (.ia 32 1 1 10),oj 12 (.ld 1 false 11),oj 13 (.ia 32 1 3 9),on_ (.st 1 13 12)]
def k108_1:IC:=(.ops r108_5)
def r108_4:List J:=[oj 7 (.mv 4),oj 8 (.bin .add 7 (ci 1)),oj 4 (.mv 8)]
def l108_1:IC:=(.seq (.seq (.ops r108_3) (.cond 6 .skip (.exit 0))) (.seq (.block 1 k108_1) (.ops r108_4)))
def k108_0:IC:=(.loop l108_1)
def r108_6:List J:=[oj 14 (.ia 32 1 3 (ci 0)),oj 15 (.ld 1 false 14),oj 16 (.ia 32 1 3 (ci 0)),oj 17 (.ld 1 false 16),oj 18 (.bin .rem 17 (.const (.int .u8 8))),oj 19 (.bin .sub 15 18),oj 20 (.ia 32 1 3 (ci 0)),on_ (.st 1 20 19)]
def r108_7:List J:=[oj 21 (.ia 32 1 3 (ci 31)),oj 22 (.ld 1 false 21),oj 23 (.bin .rem 22 (.const (.int .u8 64))),oj 24 (.bin .add 23 (.const (.int .u8 64))),oj 25 (.ia 32 1 3 (ci 31)),on_ (.st 1 25 24)]
def r108_8:List J:=[oj 26 (.ld 32 true 3),on_ (.st 32 2 26)]
def d108:FnD:=⟨27,[.cell 2 32 true],(.seq (.ops r108_0) (.seq (.ops r108_1) (.seq (.seq (.ops r108_2) (.block 0 k108_0)) (.seq (.ops r108_6) (.seq (.ops r108_7) (.seq (.ops r108_8) .ret))))))⟩
theorem ok108:okF Tryz.prog 108 d108=true:=by kernel_rfl
def r56_0:List J:=[oj 1 (.bx 23 0),oj 2 (.al 74 [.ints .u8 32 (List.replicate 32 0)])]
def r56_1:List J:=[oj 4 (.sla 32 1 1 none none none),oj 5 (.call 58 [4]),oj 3 (.al 94 [.ints .u8 64 (List.replicate 64 0)]),on_ (.st 64 3 5)]
def r56_2:List J:=[oj 6 (.ld 64 true 3),oj 7 (.call 57 [6,(.const (.bool false))]),oj 8 (.call 108 [7]),on_ (.st 32 2 8)]
def d56:FnD:=⟨9,[.cell 2 32 true],(.seq (.ops r56_0) (.seq (.ops r56_1) (.seq (.ops r56_2) .ret)))⟩
theorem ok56:okF Tryz.prog 56 d56=true:=by kernel_rfl
def r13_0:List J:=[oj 1 (.bx 23 0),oj 2 (.al 29 [.ints .u8 32 (List.replicate 32 0)])]
def r13_1:List J:=[oj 3 (.ld 32 true 1),oj 4 (.call 56 [3]),oj 5 (.call 55 [4]),oj 6 (.call 54 [5]),on_ (.st 32 2 6)]
def d13:FnD:=⟨7,[.cell 2 32 true],(.seq (.ops r13_0) (.seq (.ops r13_1) .ret))⟩
theorem ok13:okF Tryz.prog 13 d13=true:=by kernel_rfl
def r179_0:List J:=[oj 4 (.mv (ci 0))]
def r179_1:List J:=[oj 5 (.mv 1),oj 6 (.mv 0),oj 7 (.len 6),oj 8 (.bin .lss 5 7)]
def r179_2:List J:=[oj 9 (.mv 0),oj 10 (.mv 1),oj 11 (.ias 1 9 10),oj 12 (.ld 1 false 11),oj 4 (.mv 12)]
def r179_3:List J:=[oj 4 (.mv (ci 0))]
def d179:FnD:=⟨13,[.tmp 4],(.seq (.ops r179_0) (.seq (.seq (.ops r179_1) (.cond 8 (.seq (.ops r179_2) .ret) .skip)) (.seq (.ops r179_3) .ret)))⟩
theorem ok179:okF Tryz.prog 179 d179=true:=by kernel_rfl
def r112_0:List J:=[oj 2 (.al 74 [.ints .u8 32 (List.replicate 32 0)])]
def r112_1:List J:=[oj 3 (.al 74 [.ints .u8 32 (List.replicate 32 0)])]
def r112_2:List J:=[oj 4 (.mv (ci 0))]
def r112_3:List J:=[oj 5 (.mv 4),oj 6 (.bin .lss 5 (ci 32))]
def r112_5:List J:=[oj 9 (.mv 4),oj 10 (.mv 0),oj 11 (.mv 4),oj 12 (.call 179 [10,11]),oj 13 (.conv .u8 12),oj 14 (.ia 32 1 3 9),on_ (.st 1 14 13)]
def k112_1:IC:=(.ops r112_5)
def r112_4:List J:=[oj 7 (.mv 4),oj 8 (.bin .add 7 (ci 1)),oj 4 (.mv 8)]
def l112_1:IC:=(.seq (.seq (.ops r112_3) (.cond 6 .skip (.exit 0))) (.seq (.block 1 k112_1) (.ops r112_4)))
def k112_0:IC:=(.loop l112_1)
def r112_6:List J:=[oj 15 (.ld 32 true 3),on_ (.st 32 2 15)]
def d112:FnD:=⟨16,[.cell 2 32 true],(.seq (.ops r112_0) (.seq (.ops r112_1) (.seq (.seq (.ops r112_2) (.block 0 k112_0)) (.seq (.ops r112_6) .ret))))⟩
theorem ok112:okF Tryz.prog 112 d112=true:=by kernel_rfl
def r182_0:List J:=[oj 4 (.mv (ci 0))]
def r182_1:List J:=[oj 5 (.mv 0),oj 6 (.len 5),oj 7 (.mv 1),oj 8 (.len 7),oj 9 (.bin .lss 6 8)]
def r182_2:List J:=[oj 10 (.mv 1),oj 11 (.len 10),oj 4 (.mv 11)]
def r182_3:List J:=[oj 12 (.mv 0),oj 13 (.len 12),oj 4 (.mv 13)]
def d182:FnD:=⟨14,[.tmp 4],(.seq (.ops r182_0) (.seq (.seq (.ops r182_1) (.cond 9 (.seq (.ops r182_2) .ret) .skip)) (.seq (.ops r182_3) .ret)))⟩
theorem ok182:okF Tryz.prog 182 d182=true:=by kernel_rfl
def r144_0:List J:=[oj 4 (.mv (.const (.bool false)))]
def r144_1:List J:=[oj 6 (.mv 0),oj 7 (.mv 1),oj 8 (.call 182 [6,7]),oj 9 (.bin .sub 8 (ci 1)),oj 5 (.mv 9)]
def r144_2:List J:=[oj 10 (.mv 5),oj 11 (.bin .geq 10 (ci 0))]
def r144_4:List J:=[oj 14 (.mv 0),oj 15 (.mv 5),oj 16 (.call 179 [14,15]),oj 17 (.mv 1),oj 18 (.mv 5),oj 19 (.call 179 [17,18]),oj 20 (.bin .neq 16 19)]
def r144_5:List J:=[oj 21 (.mv 0),oj 22 (.mv 5),oj 23 (.call 179 [21,22]),oj 24 (.mv 1),oj 25 (.mv 5),oj 26 (.call 179 [24,25]),oj 27 (.bin .lss 23 26),oj 4 (.mv 27)]
def k144_1:IC:=(.seq (.ops r144_4) (.cond 20 (.seq (.ops r144_5) .ret) .skip))
def r144_3:List J:=[oj 12 (.mv 5),oj 13 (.bin .sub 12 (ci 1)),oj 5 (.mv 13)]
def l144_1:IC:=(.seq (.seq (.ops r144_2) (.cond 11 .skip (.exit 0))) (.seq (.block 1 k144_1) (.ops r144_3)))
def k144_0:IC:=(.loop l144_1)
def r144_6:List J:=[oj 4 (.mv (.const (.bool false)))]
def d144:FnD:=⟨28,[.tmp 4],(.seq (.ops r144_0) (.seq (.seq (.ops r144_1) (.block 0 k144_0)) (.seq (.ops r144_6) .ret)))⟩
theorem ok144:okF Tryz.prog 144 d144=true:=by kernel_rfl
def r145_0:List J:=[oj 0 (.mv (.const (.slice none 0 0)))]
def r145_1:List J:=[oj 1 (.bs 3 32 1 [.one (.int .i64 0),.one (.int .i64 0),.one (.int .i64 0),.one (.int .i64 0),.one (.int .i64 0),.one (.int .i64 0),.one (.int .i64 0),.one (.int .i64 0),.one (.int .i64 0),.one (.int .i64 0),.one (.int .i64 0),.one (.int .i64 0),.one (.int .i64 0),.one (.int .i64 0),.one (.int .i64 0),.one (.int .i64 0),.one (.int .i64 0),.one (.int .i64 0),.one (.int .i64 0),.one (.int .i64 0),.one (.int .i64 0),.one (.int .i64 0),.one (.int .i64 0),.one (.int .i64 0),.one (.int .i64 0),.one (.int .i64 0),.one (.int .i64 0),.one (.int .i64 0),.one (.int .i64 0),.one (.int .i64 0),.one (.int .i64 0),.one (.int .i64 0)] [(0,1,(ci 237)),(1,1,(ci 211)),(2,1,(ci 245)),(3,1,(ci 92)),(4,1,(ci 26)),(5,1,(ci 99)),(6,1,(ci 18)),(7,1,(ci 88)),(8,1,(ci 214)),(9,1,(ci 156)),(10,1,(ci 247)),(11,1,(ci 162)),(12,1,(ci 222)),(13,1,(ci 249)),(14,1,(ci 222)),(15,1,(ci 20)),(16,1,(ci 0)),(17,1,(ci 0)),(18,1,(ci 0)),(19,1,(ci 0)),(20,1,(ci 0)),(21,1,(ci 0)),(22,1,(ci 0)),(23,1,(ci 0)),(24,1,(ci 0)),(25,1,(ci 0)),(26,1,(ci 0)),(27,1,(ci 0)),(28,1,(ci 0)),(29,1,(ci 0)),(30,1,(ci 0)),(31,1,(ci 16))]),oj 0 (.mv 1)]
def d145:FnD:=⟨2,[.tmp 0],(.seq (.ops r145_0) (.seq (.ops r145_1) .ret))⟩
theorem ok145:okF Tryz.prog 145 d145=true:=by kernel_rfl
def r180_0:List J:=[oj 4 (.mv (ci 0))]
def r180_1:List J:=[oj 7 (.mv 0),oj 8 (.mv 1),oj 9 (.bin .quo 8 (ci 8)),oj 10 (.call 179 [7,9]),oj 5 (.mv 10)]
def r180_2:List J:=[oj 6 (.mv (ci 0))]
def r180_3:List J:=[oj 11 (.mv 6),oj 12 (.mv 1),oj 13 (.bin .rem 12 (ci 8)),oj 14 (.bin .lss 11 13)]
def r180_5:List J:=[oj 17 (.mv 5),oj 18 (.bin .quo 17 (ci 2)),oj 5 (.mv 18)]
def k180_1:IC:=(.ops r180_5)
def r180_4:List J:=[oj 15 (.mv 6),oj 16 (.bin .add 15 (ci 1)),oj 6 (.mv 16)]
def l180_1:IC:=(.seq (.seq (.ops r180_3) (.cond 14 .skip (.exit 0))) (.seq (.block 1 k180_1) (.ops r180_4)))
def k180_0:IC:=(.loop l180_1)
def r180_6:List J:=[oj 19 (.mv 5),oj 20 (.bin .rem 19 (ci 2)),oj 4 (.mv 20)]
def d180:FnD:=⟨21,[.tmp 4],(.seq (.ops r180_0) (.seq (.ops r180_1) (.seq (.seq (.ops r180_2) (.block 0 k180_0)) (.seq (.ops r180_6) .ret))))⟩
theorem ok180:okF Tryz.prog 180 d180=true:=by kernel_rfl
def r181_0:List J:=[oj 4 (.mv (.const (.slice none 0 0)))]
def r181_1:List J:=[oj 5 (.mv (.const (.slice none 0 0)))]
def r181_2:List J:=[oj 6 (.mv (ci 0))]
def r181_3:List J:=[oj 7 (.mv (ci 0))]
def r181_4:List J:=[oj 9 (.mv 7),oj 10 (.mv 0),oj 11 (.len 10),oj 12 (.bin .lss 9 11)]
def r181_6:Sch:=(.p [0] (oj 15 (.mv 0)) (.p [1] (oj 16 (.mv 7)) (.p [2] (oj 17 (.ias 1 15 16)) (.p [4] (oj 19 (.mv 1)) (.p [5] (oj 20 (.mv 7)) (.p [8] (oj 23 (.mv 6)) (.q [3] (oj 18 (.ld 1 false 17)) (.q [6] (oj 21 (.call 179 [19,20])) (.p [7] (oj 22 (.bin .sub 18 21)) (.p [9] (oj 24 (.bin .sub 22 23)) (.p [10] (oj 8 (.mv 24)) .nil)))))))))))
def r181_7:List J:=[oj 6 (.mv (ci 0))]
def r181_8:List J:=[oj 25 (.mv 8),oj 26 (.bin .lss 25 (ci 0))]
def r181_9:List J:=[oj 27 (.mv 8),oj 28 (.bin .add 27 (ci 256)),oj 8 (.mv 28)]
def r181_10:List J:=[oj 6 (.mv (ci 1))]
def r181_11:List J:=[oj 29 (.mv 5),oj 30 (.mv 8),oj 31 (.bs 3 1 1 [.one (.int .i64 0)] [(0,1,30)]),oj 32 (.app 3 1 8 [.one (.int .i64 0)] 29 31),oj 5 (.mv 32)]
def k181_1:IC:=(.seq (.draw r181_6 []) (.seq (.ops r181_7) (.seq (.seq (.ops r181_8) (.cond 26 (.seq (.ops r181_9) (.ops r181_10)) .skip)) (.ops r181_11))))
def r181_5:List J:=[oj 13 (.mv 7),oj 14 (.bin .add 13 (ci 1)),oj 7 (.mv 14)]
def l181_1:IC:=(.seq (.seq (.ops r181_4) (.cond 12 .skip (.exit 0))) (.seq (.block 1 k181_1) (.ops r181_5)))
def k181_0:IC:=(.loop l181_1)
def r181_12:List J:=[oj 33 (.mv 5),oj 4 (.mv 33)]
def d181:FnD:=⟨34,[.tmp 4],(.seq (.ops r181_0) (.seq (.ops r181_1) (.seq (.ops r181_2) (.seq (.seq (.ops r181_3) (.block 0 k181_0)) (.seq (.ops r181_12) .ret)))))⟩
theorem ok181:okF Tryz.prog 181 d181=true:=by kernel_rfl
def r113_0:List J:=[oj 2 (.mv (.const (.slice none 0 0)))]
def r113_1:List J:=[oj 9 (.call 145 []),oj 3 (.mv 9)]
def r113_2:List J:=[oj 10 (.mks 3 8 [.one (.int .i64 0)] (ci 33) (ci 33)),oj 4 (.mv 10)]
def r113_3:List J:=[oj 11 (.mv 0),oj 12 (.len 11),oj 13 (.bin .mul (ci 8) 12),oj 14 (.bin .sub 13 (ci 1)),oj 5 (.mv 14)]
def r113_4:List J:=[oj 15 (.mv 5),oj 16 (.bin .geq 15 (ci 0))]
def r113_6:List J:=[oj 19 (.mv 0),oj 20 (.mv 5),oj 21 (.call 180 [19,20]),oj 6 (.mv 21)]
def r113_7:List J:=[oj 7 (.mv (ci 0))]
def r113_8:List J:=[oj 22 (.mv 7),oj 23 (.bin .lss 22 (ci 33))]
def r113_10:List J:=[oj 26 (.mv 4),oj 27 (.mv 7),oj 28 (.ias 1 26 27),oj 29 (.ld 1 false 28),oj 30 (.bin .mul (ci 2) 29),oj 31 (.mv 6),oj 32 (.bin .add 30 31),oj 8 (.mv 32)]
def r113_11:List J:=[oj 33 (.mv 4),oj 34 (.mv 7),oj 35 (.mv 8),oj 36 (.bin .rem 35 (ci 256)),oj 37 (.ias 1 33 34),on_ (.st 1 37 36)]
def r113_12:List J:=[oj 38 (.mv 8),oj 39 (.bin .quo 38 (ci 256)),oj 6 (.mv 39)]
def k113_3:IC:=(.seq (.ops r113_10) (.seq (.ops r113_11) (.ops r113_12)))
def r113_9:List J:=[oj 24 (.mv 7),oj 25 (.bin .add 24 (ci 1)),oj 7 (.mv 25)]
def l113_2:IC:=(.seq (.seq (.ops r113_8) (.cond 23 .skip (.exit 2))) (.seq (.block 3 k113_3) (.ops r113_9)))
def k113_2:IC:=(.loop l113_2)
def r113_13:List J:=[oj 40 (.mv 4),oj 41 (.mv 3),oj 42 (.call 144 [40,41]),oj 43 (.un .not 42)]
def r113_14:List J:=[oj 44 (.mv 4),oj 45 (.mv 3),oj 46 (.call 181 [44,45]),oj 4 (.mv 46)]
def k113_1:IC:=(.seq (.ops r113_6) (.seq (.seq (.ops r113_7) (.block 2 k113_2)) (.seq (.ops r113_13) (.cond 43 (.ops r113_14) .skip))))
def r113_5:List J:=[oj 17 (.mv 5),oj 18 (.bin .sub 17 (ci 1)),oj 5 (.mv 18)]
def l113_1:IC:=(.seq (.seq (.ops r113_4) (.cond 16 .skip (.exit 0))) (.seq (.block 1 k113_1) (.ops r113_5)))
def k113_0:IC:=(.loop l113_1)
def r113_15:List J:=[oj 47 (.mv 4),oj 2 (.mv 47)]
def d113:FnD:=⟨48,[.tmp 2],(.seq (.ops r113_0) (.seq (.ops r113_1) (.seq (.ops r113_2) (.seq (.seq (.ops r113_3) (.block 0 k113_0)) (.seq (.ops r113_15) .ret)))))⟩
theorem ok113:okF Tryz.prog 113 d113=true:=by kernel_rfl
def r114_0:List J:=[oj 2 (.mv (.const (.slice none 0 0)))]
def r114_1:List J:=[oj 3 (.mv (.const (.slice none 0 0)))]
def r114_2:List J:=[oj 4 (.mv (ci 0))]
def r114_3:List J:=[oj 5 (.mv 4),oj 6 (.mv 0),oj 7 (.len 6),oj 8 (.bin .lss 5 7)]
def r114_5:List J:=[oj 11 (.mv 3),oj 12 (.mv 0),oj 13 (.mv 4),oj 14 (.ias 1 12 13),oj 15 (.ld 1 false 14),oj 16 (.conv .i64 15),oj 17 (.bs 3 1 1 [.one (.int .i64 0)] [(0,1,16)]),oj 18 (.app 3 1 8 [.one (.int .i64 0)] 11 17),oj 3 (.mv 18)]
def k114_1:IC:=(.ops r114_5)
def r114_4:List J:=[oj 9 (.mv 4),oj 10 (.bin .add 9 (ci 1)),oj 4 (.mv 10)]
def l114_1:IC:=(.seq (.seq (.ops r114_3) (.cond 8 .skip (.exit 0))) (.seq (.block 1 k114_1) (.ops r114_4)))
def k114_0:IC:=(.loop l114_1)
def r114_6:List J:=[oj 19 (.mv 3),oj 2 (.mv 19)]
def d114:FnD:=⟨20,[.tmp 2],(.seq (.ops r114_0) (.seq (.ops r114_1) (.seq (.seq (.ops r114_2) (.block 0 k114_0)) (.seq (.ops r114_6) .ret))))⟩
theorem ok114:okF Tryz.prog 114 d114=true:=by kernel_rfl
def r59_0:List J:=[oj 1 (.bx 94 0),oj 2 (.al 74 [.ints .u8 32 (List.replicate 32 0)])]
def r59_1:List J:=[oj 3 (.sla 64 1 1 none none none),oj 4 (.call 114 [3]),oj 5 (.call 113 [4]),oj 6 (.call 112 [5]),on_ (.st 32 2 6)]
def d59:FnD:=⟨7,[.cell 2 32 true],(.seq (.ops r59_0) (.seq (.ops r59_1) .ret))⟩
theorem ok59:okF Tryz.prog 59 d59=true:=by kernel_rfl
def r60_0:List J:=[oj 6 (.mv (.const (.slice none 0 0)))]
def r60_1:List J:=[oj 7 (.mv (.const (.slice none 0 0)))]
def r60_2:List J:=[oj 8 (.mv 7),oj 9 (.mv 0),oj 10 (.app 5 1 1 [.one (.int .u8 0)] 8 9),oj 7 (.mv 10)]
def r60_3:List J:=[oj 11 (.mv 7),oj 12 (.mv 1),oj 13 (.app 5 1 1 [.one (.int .u8 0)] 11 12),oj 7 (.mv 13)]
def r60_4:List J:=[oj 14 (.mv 7),oj 15 (.mv 2),oj 16 (.app 5 1 1 [.one (.int .u8 0)] 14 15),oj 7 (.mv 16)]
def r60_5:List J:=[oj 17 (.mv 7),oj 6 (.mv 17)]
def d60:FnD:=⟨18,[.tmp 6],(.seq (.ops r60_0) (.seq (.ops r60_1) (.seq (.ops r60_2) (.seq (.ops r60_3) (.seq (.ops r60_4) (.seq (.ops r60_5) .ret))))))⟩
theorem ok60:okF Tryz.prog 60 d60=true:=by kernel_rfl
def r115_0:List J:=[oj 4 (.mv (.const (.slice none 0 0)))]
def r115_1:List J:=[oj 5 (.mv (.const (.slice none 0 0)))]
def r115_2:List J:=[oj 6 (.mv (ci 0))]
def r115_3:List J:=[oj 7 (.mv (ci 0))]
def r115_4:List J:=[oj 9 (.mv 7),oj 10 (.mv 0),oj 11 (.mv 1),oj 12 (.call 182 [10,11]),oj 13 (.bin .lss 9 12)]
def r115_6:List J:=[oj 16 (.mv 0),oj 17 (.mv 7),oj 18 (.call 179 [16,17]),oj 19 (.mv 1),oj 20 (.mv 7),oj 21 (.call 179 [19,20]),oj 22 (.bin .add 18 21),oj 23 (.mv 6),oj 24 (.bin .add 22 23),oj 8 (.mv 24)]
def r115_7:List J:=[oj 25 (.mv 5),oj 26 (.mv 8),oj 27 (.bin .rem 26 (ci 256)),oj 28 (.bs 3 1 1 [.one (.int .i64 0)] [(0,1,27)]),oj 29 (.app 3 1 8 [.one (.int .i64 0)] 25 28),oj 5 (.mv 29)]
def r115_8:List J:=[oj 30 (.mv 8),oj 31 (.bin .quo 30 (ci 256)),oj 6 (.mv 31)]
def k115_1:IC:=(.seq (.ops r115_6) (.seq (.ops r115_7) (.ops r115_8)))
def r115_5:List J:=[oj 14 (.mv 7),oj 15 (.bin .add 14 (ci 1)),oj 7 (.mv 15)]
def l115_1:IC:=(.seq (.seq (.ops r115_4) (.cond 13 .skip (.exit 0))) (.seq (.block 1 k115_1) (.ops r115_5)))
def k115_0:IC:=(.loop l115_1)
def r115_9:List J:=[oj 32 (.mv 5),oj 33 (.mv 6),oj 34 (.bs 3 1 1 [.one (.int .i64 0)] [(0,1,33)]),oj 35 (.app 3 1 8 [.one (.int .i64 0)] 32 34),oj 4 (.mv 35)]
def d115:FnD:=⟨36,[.tmp 4],(.seq (.ops r115_0) (.seq (.ops r115_1) (.seq (.ops r115_2) (.seq (.seq (.ops r115_3) (.block 0 k115_0)) (.seq (.ops r115_9) .ret)))))⟩
theorem ok115:okF Tryz.prog 115 d115=true:=by kernel_rfl
def r116_0:List J:=[oj 4 (.mv (.const (.slice none 0 0)))]
def r116_1:List J:=[oj 10 (.mv 0),oj 11 (.len 10),oj 12 (.mv 1),oj 13 (.len 12),oj 14 (.bin .add 11 13),oj 15 (.mks 3 8 [.one (.int .i64 0)] 14 14),oj 5 (.mv 15)]
def r116_2:List J:=[oj 6 (.mv (ci 0))]
def r116_3:List J:=[oj 16 (.mv 6),oj 17 (.mv 0),oj 18 (.len 17),oj 19 (.bin .lss 16 18)]
def r116_5:List J:=[oj 7 (.mv (ci 0))]
def r116_6:List J:=[oj 8 (.mv (ci 0))]
def r116_7:List J:=[oj 22 (.mv 8),oj 23 (.mv 1),oj 24 (.len 23),oj 25 (.bin .lss 22 24)]
def r116_9:Sch:=(.p [0] (oj 28 (.mv 5)) (.p [1] (oj 29 (.mv 6)) (.p [2] (oj 30 (.mv 8)) (.p [3] (oj 31 (.bin .add 29 30)) (.p [4] (oj 32 (.ias 1 28 31)) (.p [6] (oj 34 (.mv 0)) (.p [7] (oj 35 (.mv 6)) (.p [8] (oj 36 (.ias 1 34 35)) (.p [10] (oj 38 (.mv 1)) (.p [11] (oj 39 (.mv 8)) (.p [12] (oj 40 (.ias 1 38 39)) (.p [16] (oj 44 (.mv 7)) (.q [5] (oj 33 (.ld 1 false 32)) (.q [9] (oj 37 (.ld 1 false 36)) (.q [13] (oj 41 (.ld 1 false 40)) (.p [14] (oj 42 (.bin .mul 37 41)) (.p [15] (oj 43 (.bin .add 33 42)) (.p [17] (oj 45 (.bin .add 43 44)) (.p [18] (oj 9 (.mv 45)) .nil)))))))))))))))))))
def r116_10:List J:=[oj 46 (.mv 5),oj 47 (.mv 6),oj 48 (.mv 8),oj 49 (.bin .add 47 48),oj 50 (.mv 9),oj 51 (.bin .rem 50 (ci 256)),oj 52 (.ias 1 46 49),on_ (.st 1 52 51)]
def r116_11:List J:=[oj 53 (.mv 9),oj 54 (.bin .quo 53 (ci 256)),oj 7 (.mv 54)]
def k116_3:IC:=(.seq (.draw r116_9 []) (.seq (.ops r116_10) (.ops r116_11)))
def r116_8:List J:=[oj 26 (.mv 8),oj 27 (.bin .add 26 (ci 1)),oj 8 (.mv 27)]
def l116_2:IC:=(.seq (.seq (.ops r116_7) (.cond 25 .skip (.exit 2))) (.seq (.block 3 k116_3) (.ops r116_8)))
def k116_2:IC:=(.loop l116_2)
def r116_12:List J:=[oj 55 (.mv 5),oj 56 (.mv 6),oj 57 (.mv 1),oj 58 (.len 57),oj 59 (.bin .add 56 58),oj 60 (.mv 7),oj 61 (.ias 1 55 59),on_ (.st 1 61 60)]
def k116_1:IC:=(.seq (.ops r116_5) (.seq (.seq (.ops r116_6) (.block 2 k116_2)) (.ops r116_12)))
def r116_4:List J:=[oj 20 (.mv 6),oj 21 (.bin .add 20 (ci 1)),oj 6 (.mv 21)]
def l116_1:IC:=(.seq (.seq (.ops r116_3) (.cond 19 .skip (.exit 0))) (.seq (.block 1 k116_1) (.ops r116_4)))
def k116_0:IC:=(.loop l116_1)
def r116_13:List J:=[oj 62 (.mv 5),oj 4 (.mv 62)]
def d116:FnD:=⟨63,[.tmp 4],(.seq (.ops r116_0) (.seq (.ops r116_1) (.seq (.seq (.ops r116_2) (.block 0 k116_0)) (.seq (.ops r116_13) .ret))))⟩
theorem ok116:okF Tryz.prog 116 d116=true:=by kernel_rfl
def r61_0:List J:=[oj 3 (.bx 74 0),oj 4 (.bx 74 1),oj 5 (.bx 74 2),oj 6 (.al 74 [.ints .u8 32 (List.replicate 32 0)])]
def r61_1:Sch:=(.p [0] (oj 7 (.sla 32 1 3 none none none)) (.p [2] (oj 9 (.sla 32 1 4 none none none)) (.p [5] (oj 12 (.sla 32 1 5 none none none)) (.e 1 (oi 8 (.call 114 [7])) (.e 3 (oi 10 (.call 114 [9])) (.e 4 (oi 11 (.call 116 [8,10])) (.e 6 (oi 13 (.call 114 [12])) (.e 7 (oi 14 (.call 115 [11,13])) (.e 8 (oi 15 (.call 113 [14])) (.e 9 (oi 16 (.call 112 [15])) (.e 10 (oe (.st 32 6 16)) .nil)))))))))))
def d61:FnD:=⟨17,[.cell 6 32 true],(.seq (.ops r61_0) (.seq (.draw r61_1 [10]) .ret))⟩
theorem ok61:okF Tryz.prog 61 d61=true:=by kernel_rfl
def r14_0:List J:=[oj 2 (.bx 23 0),oj 4 (.al 27 [.ints .u8 64 (List.replicate 64 0)])]
def r14_1:List J:=[oj 14 (.ld 32 true 2),oj 15 (.call 56 [14]),oj 5 (.al 74 [.ints .u8 32 (List.replicate 32 0)]),on_ (.st 32 5 15)]
def r14_2:List J:=[oj 16 (.ld 32 true 2),oj 17 (.call 13 [16]),oj 6 (.al 29 [.ints .u8 32 (List.replicate 32 0)]),on_ (.st 32 6 17)]
def r14_3:List J:=[oj 18 (.sla 32 1 2 none none none),oj 19 (.call 58 [18]),oj 20 (.call 57 [19,(.const (.bool true))]),oj 7 (.al 22 [.ints .u8 32 (List.replicate 32 0)]),on_ (.st 32 7 20)]
def r14_4:List J:=[oj 21 (.sla 32 1 7 none none none),oj 22 (.mv 1),oj 23 (.call 60 [21,22,(.const (.slice none 0 0))]),oj 24 (.call 58 [23]),oj 25 (.call 59 [24]),oj 8 (.al 74 [.ints .u8 32 (List.replicate 32 0)]),on_ (.st 32 8 25)]
def r14_5:List J:=[oj 26 (.ld 32 true 8),oj 27 (.call 55 [26]),oj 28 (.call 54 [27]),oj 9 (.al 29 [.ints .u8 32 (List.replicate 32 0)]),on_ (.st 32 9 28)]
def r14_6:Sch:=(.p [0] (oj 29 (.sla 32 1 9 none none none)) (.p [1] (oj 30 (.sla 32 1 6 none none none)) (.p [2] (oj 31 (.mv 1)) (.two 3 (oi 32 (.call 60 [29,30,31])) (.two 4 (oi 33 (.call 58 [32])) (.p [5] (oj 34 (.call 59 [33])) (.e 6 (oi 10 (.al 74 [.ints .u8 32 (List.replicate 32 0)])) (.e 7 (oe (.st 32 10 34)) .nil)))
  6 ⟨some 10,none,.al 74 [.ints .u8 32 (List.replicate 32 0)]⟩ (.e 4 (oi 33 (.call 58 [32])) (.p [5] (oj 34 (.call 59 [33])) (.e 7 (oe (.st 32 10 34)) .nil))))
  6 ⟨some 10,none,.al 74 [.ints .u8 32 (List.replicate 32 0)]⟩ (.e 3 (oi 32 (.call 60 [29,30,31])) (.e 4 (oi 33 (.call 58 [32])) (.p [5] (oj 34 (.call 59 [33])) (.e 7 (oe (.st 32 10 34)) .nil))))))))
def r14_7:List J:=[oj 35 (.ld 32 true 10),oj 36 (.ld 32 true 5),oj 37 (.ld 32 true 8),oj 38 (.call 61 [35,36,37]),oj 11 (.al 74 [.ints .u8 32 (List.replicate 32 0)]),on_ (.st 32 11 38)]
def r14_8:List J:=[oj 12 (.al 27 [.ints .u8 64 (List.replicate 64 0)])]
def r14_9:List J:=[oj 13 (.mv (ci 0))]
def r14_10:List J:=[oj 39 (.mv 13),oj 40 (.bin .lss 39 (ci 32))]
def r14_12:List J:=[oj 43 (.mv 13),oj 44 (.mv 13),oj 45 (.ia 32 1 9 44),oj 46 (.ld 1 false 45),oj 47 (.ia 64 1 12 43),on_ (.st 1 47 46)]
def r14_13:List J:=[oj 48 (.mv 13),oj 49 (.bin .add (ci 32) 48),oj 50 (.mv 13),oj 51 (.ia 32 1 11 50),oj 52 (.ld 1 false 51),oj 53 (.ia 64 1 12 49),on_ (.st 1 53 52)]
def k14_1:IC:=(.seq (.ops r14_12) (.ops r14_13))
def r14_11:List J:=[oj 41 (.mv 13),oj 42 (.bin .add 41 (ci 1)),oj 13 (.mv 42)]
def l14_1:IC:=(.seq (.seq (.ops r14_10) (.cond 40 .skip (.exit 0))) (.seq (.block 1 k14_1) (.ops r14_11)))
def k14_0:IC:=(.loop l14_1)
def r14_14:List J:=[oj 54 (.ld 64 true 12),on_ (.st 64 4 54)]
def d14:FnD:=⟨55,[.cell 4 64 true],(.seq (.ops r14_0) (.seq (.ops r14_1) (.seq (.ops r14_2) (.seq (.ops r14_3) (.seq (.ops r14_4) (.seq (.ops r14_5) (.seq (.draw r14_6 [7]) (.seq (.ops r14_7) (.seq (.ops r14_8) (.seq (.seq (.ops r14_9) (.block 0 k14_0)) (.seq (.ops r14_14) .ret)))))))))))⟩
theorem ok14:okF Tryz.prog 14 d14=true:=by kernel_rfl
def r15_0:List J:=[oj 4 (.mv (.const (.bool false)))]
def r15_1:List J:=[oj 8 (.mv 0),oj 9 (.mv 1),oj 10 (.len 9),oj 11 (.bin .add 10 (ci 130)),oj 12 (.sls 1 8 none (some 11) none),oj 5 (.mv 12)]
def r15_2:List J:=[oj 6 (.mv (ci 0))]
def r15_3:List J:=[oj 13 (.mv 6),oj 14 (.mv 1),oj 15 (.len 14),oj 16 (.bin .lss 13 15)]
def r15_5:Sch:=(.p [0] (oj 19 (.mv 5)) (.p [1] (oj 20 (.mv 6)) (.p [2] (oj 21 (.ias 1 19 20)) (.p [4] (oj 23 (.mv 1)) (.p [5] (oj 24 (.mv 6)) (.p [6] (oj 25 (.ias 1 23 24)) (.q [3] (oj 22 (.ld 1 false 21)) (.q [7] (oj 26 (.ld 1 false 25)) (.p [8] (oj 27 (.bin .neq 22 26)) .nil)))))))))
def r15_6:List J:=[oj 4 (.mv (.const (.bool false)))]
def k15_1:IC:=(.seq (.draw r15_5 []) (.cond 27 (.seq (.ops r15_6) .ret) .skip))
def r15_4:List J:=[oj 17 (.mv 6),oj 18 (.bin .add 17 (ci 1)),oj 6 (.mv 18)]
def l15_1:IC:=(.seq (.seq (.ops r15_3) (.cond 16 .skip (.exit 0))) (.seq (.block 1 k15_1) (.ops r15_4)))
def k15_0:IC:=(.loop l15_1)
def r15_7:List J:=[oj 28 (.mv 1),oj 29 (.len 28),oj 7 (.mv 29)]
def r15_8:List J:=[oj 30 (.mv 7),oj 31 (.mv 5),oj 32 (.len 31),oj 33 (.bin .lss 30 32)]
def r15_10:List J:=[oj 36 (.mv 5),oj 37 (.mv 7),oj 38 (.ias 1 36 37),oj 39 (.ld 1 false 38),oj 40 (.bin .neq 39 (.const (.int .u8 165)))]
def r15_11:List J:=[oj 4 (.mv (.const (.bool false)))]
def k15_3:IC:=(.seq (.ops r15_10) (.cond 40 (.seq (.ops r15_11) .ret) .skip))
def r15_9:List J:=[oj 34 (.mv 7),oj 35 (.bin .add 34 (ci 1)),oj 7 (.mv 35)]
def l15_2:IC:=(.seq (.seq (.ops r15_8) (.cond 33 .skip (.exit 2))) (.seq (.block 3 k15_3) (.ops r15_9)))
def k15_2:IC:=(.loop l15_2)
def r15_12:List J:=[oj 4 (.mv (.const (.bool true)))]
def d15:FnD:=⟨41,[.tmp 4],(.seq (.ops r15_0) (.seq (.ops r15_1) (.seq (.seq (.ops r15_2) (.block 0 k15_0)) (.seq (.seq (.ops r15_7) (.block 2 k15_2)) (.seq (.ops r15_12) .ret)))))⟩
theorem ok15:okF Tryz.prog 15 d15=true:=by kernel_rfl
def r16_0:List J:=[oj 2 (.mv (.const (.slice none 0 0)))]
def r16_1:List J:=[oj 4 (.mv 0),oj 5 (.len 4),oj 6 (.bin .gtr 5 (ci 0))]
def r16_2:List J:=[oj 7 (.mv 0),oj 8 (.mv 0),oj 9 (.ias 1 8 (ci 0)),oj 10 (.ld 1 false 9),oj 11 (.bin .xor 10 (.const (.int .u8 64))),oj 12 (.ias 1 7 (ci 0)),on_ (.st 1 12 11)]
def r16_3:List J:=[oj 3 (.mv (.const (.slice none 0 0)))]
def r16_4:List J:=[oj 13 (.mv 3),oj 14 (.mv 0),oj 15 (.app 5 1 1 [.one (.int .u8 0)] 13 14),oj 2 (.mv 15)]
def d16:FnD:=⟨16,[.tmp 2],(.seq (.ops r16_0) (.seq (.seq (.ops r16_1) (.cond 6 (.ops r16_2) .skip)) (.seq (.ops r16_3) (.seq (.ops r16_4) .ret))))⟩
theorem ok16:okF Tryz.prog 16 d16=true:=by kernel_rfl
def r3_0:List J:=[oj 2 (.bx 23 0),oj 4 (.mv (.const (.bool false)))]
def r3_1:List J:=[oj 9 (.mv 1),oj 10 (.call 10 [9]),oj 5 (.mv 10)]
def r3_2:List J:=[oj 11 (.ld 32 true 2),oj 12 (.mv 5),oj 13 (.call 11 [11,12]),oj 6 (.al 27 [.ints .u8 64 (List.replicate 64 0)]),on_ (.st 64 6 13)]
def r3_3:Sch:=(.q [0] (oj 14 (.ld 32 true 2)) (.p [1] (oj 15 (.call 12 [14])) (.q [2] (oj 16 (.ld 32 true 2)) (.p [3] (oj 17 (.call 13 [16])) (.p [4] (oj 18 (.eqa true [(.i .u8,32)] 15 17)) (.p [5] (oj 19 (.mv 18)) (.q [6,7,8,9,10,11] (.lg true 19 25 none [.op ⟨some 20,(some (19,false)),.ld 64 true 6⟩,.op ⟨some 21,(some (19,false)),.ld 32 true 2⟩,.op ⟨some 22,(some (19,false)),.mv 1⟩,.op ⟨some 23,(some (19,false)),.call 14 [21,22]⟩,.op ⟨some 24,(some (19,false)),.eqa true [(.i .u8,64)] 20 23⟩] 24) (.p [12] (oj 26 (.mv 25)) (.q [13,14,15,16,17] (.lg true 26 31 none [.op ⟨some 27,(some (26,false)),.mv 5⟩,.op ⟨some 28,(some (26,false)),.mv 1⟩,.op ⟨some 29,(some (26,false)),.call 15 [27,28]⟩,.op ⟨some 30,(some (26,false)),.un .not 29⟩] 30) .nil)))))))))
def r3_4:List J:=[oj 4 (.mv (.const (.bool false)))]
def r3_5:List J:=[oj 32 (.mv 5),oj 33 (.call 16 [32]),oj 7 (.mv 33)]
def r3_6:List J:=[oj 34 (.ld 32 true 2),oj 35 (.mv 5),oj 36 (.call 11 [34,35]),oj 8 (.al 27 [.ints .u8 64 (List.replicate 64 0)]),on_ (.st 64 8 36)]
def r3_7:Sch:=(.p [2] (oj 39 (.mv 7)) (.q [0] (oj 37 (.ld 64 true 8)) (.q [1] (oj 38 (.ld 32 true 2)) (.q [3] (oj 40 (.call 14 [38,39])) (.p [4] (oj 41 (.eqa false [(.i .u8,64)] 37 40)) (.p [5] (oj 42 (.mv 41)) (.q [6,7,8,9] (.lg false 42 46 none [.op ⟨some 43,(some (42,true)),.mv 5⟩,.op ⟨some 44,(some (42,true)),.mv 7⟩,.op ⟨some 45,(some (42,true)),.call 15 [43,44]⟩] 45) (.p [10] (oj 4 (.mv 46)) .nil))))))))
def d3:FnD:=⟨47,[.tmp 4],(.seq (.ops r3_0) (.seq (.ops r3_1) (.seq (.ops r3_2) (.seq (.seq (.draw r3_3 []) (.cond 31 (.seq (.ops r3_4) .ret) .skip)) (.seq (.ops r3_5) (.seq (.ops r3_6) (.seq (.draw r3_7 []) .ret)))))))⟩
theorem ok3:okF Tryz.prog 3 d3=true:=by kernel_rfl
def r5_0:List J:=[oj 3 (.bx 29 0),oj 5 (.bx 27 2),oj 6 (.mv (.const (.bool false)))]
def r5_1:List J:=[oj 9 (.mv 1),oj 10 (.call 10 [9]),oj 7 (.mv 10)]
def r5_2:Sch:=(.p [1] (oj 12 (.mv 7)) (.p [5] (oj 16 (.mv 1)) (.q [0] (oj 11 (.ld 32 true 3)) (.q [2] (oj 13 (.ld 64 true 5)) (.q [3] (oj 14 (.call 25 [11,12,13])) (.q [4] (oj 15 (.ld 32 true 3)) (.q [6] (oj 17 (.ld 64 true 5)) (.q [7] (oj 18 (.call 26 [15,16,17])) (.p [8] (oj 19 (.beq true 14 18)) (.p [9] (oj 20 (.mv 19)) (.q [10,11,12,13,14] (.lg true 20 25 none [.op ⟨some 21,(some (20,false)),.mv 7⟩,.op ⟨some 22,(some (20,false)),.mv 1⟩,.op ⟨some 23,(some (20,false)),.call 15 [21,22]⟩,.op ⟨some 24,(some (20,false)),.un .not 23⟩] 24) .nil)))))))))))
def r5_3:List J:=[oj 6 (.mv (.const (.bool false)))]
def r5_4:List J:=[oj 26 (.mv 7),oj 27 (.call 16 [26]),oj 8 (.mv 27)]
def r5_5:Sch:=(.p [1] (oj 29 (.mv 7)) (.p [5] (oj 33 (.mv 8)) (.q [0] (oj 28 (.ld 32 true 3)) (.q [2] (oj 30 (.ld 64 true 5)) (.q [3] (oj 31 (.call 25 [28,29,30])) (.q [4] (oj 32 (.ld 32 true 3)) (.q [6] (oj 34 (.ld 64 true 5)) (.q [7] (oj 35 (.call 26 [32,33,34])) (.p [8] (oj 36 (.beq false 31 35)) (.p [9] (oj 37 (.mv 36)) (.q [10,11,12,13] (.lg false 37 41 none [.op ⟨some 38,(some (37,true)),.mv 7⟩,.op ⟨some 39,(some (37,true)),.mv 8⟩,.op ⟨some 40,(some (37,true)),.call 15 [38,39]⟩] 40) (.p [14] (oj 6 (.mv 41)) .nil))))))))))))
def d5:FnD:=⟨42,[.tmp 6],(.seq (.ops r5_0) (.seq (.ops r5_1) (.seq (.seq (.draw r5_2 []) (.cond 25 (.seq (.ops r5_3) .ret) .skip)) (.seq (.ops r5_4) (.seq (.draw r5_5 []) .ret)))))⟩
theorem mo:Tryz.prog.follows .mixedOrders=true:=by kernel_rfl
theorem ext_add:ExtF Tryz.prog 158 add64Entry:=⟨Tryz.f158,Tryz.func158,by kernel_rfl,by kernel_rfl,by kernel_rfl,by kernel_rfl⟩
theorem ext_sub:ExtF Tryz.prog 190 sub64Entry:=⟨Tryz.f190,Tryz.func190,by kernel_rfl,by kernel_rfl,by kernel_rfl,by kernel_rfl⟩
def ng:Nat:=5
def G_rfirst:List Int:=[7640891576956012808,13503953896175478587,4354685564936845355,11912009170470909681,5840696475078001361,11170449401992604703,2270897969802886507,6620516959819538809]
def G_order:List Int:=[6346243789798364141,1503914060200516822,0,1152921504606846976]
def G_first:List Int:=[7640891576956012808,13503953896175478587,4354685564936845355,11912009170470909681,5840696475078001361,11170449401992604703,2270897969802886507,6620516959819538809]
def G_rtable:List Int:=[4794697086780616226,8158064640168781261,13096744586834688815,16840607885511220156,4131703408338449720,6480981068601479193,10538285296894168987,12329834152419229976,15566598209576043074,1334009975649890238,2608012711638119052,6128411473006802146,8268148722764581231,9286055187155687089,11230858885718282805,13951009754708518548,16472876342353939154,17275323862435702243,1135362057144423861,2597628984639134821,3308224258029322869,5365058923640841347,6679025012923562964,8573033837759648693,10970295158949994411,12119686244451234320,12683024718118986047,13788192230050041572,14330467153632333762,15395433587784984357,489312712824947311,1452737877330783856,2861767655752347644,3322285676063803686,5560940570517711597,5996557281743188959,7280758554555802590,8532644243296465576,9350256976987008742,10552545826968843579,11727347734174303076,12113106623233404929,14000437183269869457,14369950271660146224,15101387698204529176,15463397548674623760,17586052441742319658,1182934255886127544,1847814050463011016,2177327727835720531,2830643537854262169,3796741975233480872,4115178125766777443,5681478168544905931,6601373596472566643,7507060721942968483,8399075790359081724,8693463985226723168,9568029438360202098,10144078919501101548,10430055236837252648,11840083180663258601,13761210420658862357,14299343276471374635,14566680578165727644,15097957966210449927,16922976911328602910,17689382322260857208,500013540394364858,748580250866718886,1242879168328830382,1977374033974150939,2944078676154940804,3659926193048069267,4368137639120453308,4836135668995329356,5532061633213252278,6448918945643986474,6902733635092675308,7801388544844847127]
def G_table:List Int:=[4794697086780616226,8158064640168781261,13096744586834688815,16840607885511220156,4131703408338449720,6480981068601479193,10538285296894168987,12329834152419229976,15566598209576043074,1334009975649890238,2608012711638119052,6128411473006802146,8268148722764581231,9286055187155687089,11230858885718282805,13951009754708518548,16472876342353939154,17275323862435702243,1135362057144423861,2597628984639134821,3308224258029322869,5365058923640841347,6679025012923562964,8573033837759648693,10970295158949994411,12119686244451234320,12683024718118986047,13788192230050041572,14330467153632333762,15395433587784984357,489312712824947311,1452737877330783856,2861767655752347644,3322285676063803686,5560940570517711597,5996557281743188959,7280758554555802590,8532644243296465576,9350256976987008742,10552545826968843579,11727347734174303076,12113106623233404929,14000437183269869457,14369950271660146224,15101387698204529176,15463397548674623760,17586052441742319658,1182934255886127544,1847814050463011016,2177327727835720531,2830643537854262169,3796741975233480872,4115178125766777443,5681478168544905931,6601373596472566643,7507060721942968483,8399075790359081724,8693463985226723168,9568029438360202098,10144078919501101548,10430055236837252648,11840083180663258601,13761210420658862357,14299343276471374635,14566680578165727644,15097957966210449927,16922976911328602910,17689382322260857208,500013540394364858,748580250866718886,1242879168328830382,1977374033974150939,2944078676154940804,3659926193048069267,4368137639120453308,4836135668995329356,5532061633213252278,6448918945643986474,6902733635092675308,7801388544844847127]
structure Globs (W:World):Prop where
  g0:Mem W 0 0 [.ints .u64 8 G_rfirst]
  g1:Mem W 1 0 [.ints .u64 4 G_order]
  g2:Mem W 2 0 [.ints .u64 8 G_first]
  g3:Mem W 3 0 [.ints .u64 80 G_rtable]
  g4:Mem W 4 0 [.ints .u64 80 G_table]
theorem Globs.at {C:Cfg} {m:List Chunk} {w:World} (h:Globs C.W0) (hw:Sat C.W0 C.S m w) (hS : ∀ g,g<ng→g∉C.S):Globs w:=⟨mem_still h.g0 (hS 0 (by decide)) hw,mem_still h.g1 (hS 1 (by decide)) hw,mem_still h.g2 (hS 2 (by decide)) hw,mem_still h.g3 (hS 3 (by decide)) hw,mem_still h.g4 (hS 4 (by decide)) hw⟩
theorem Globs.ap {C:Cfg} {m:List Chunk} {w:World} {b:Nat} {o:Obj} (h:Globs C.W0) (hS : ∀ g,g<ng→g∉C.S) (hb:Has b o m) (hw:Sat C.W0 C.S m w) : ∀ g,g<ng→g ∉ [b]:=by
  intro g hg hm
  simp only [List.mem_singleton] at hm
  subst hm
  rcases hw.base _ hb.mem with h1 | h1
  · have h2 : ∀ g,g<ng→g<C.W0.heap.size:=fun g hg=>match g,hg with
      | 0,_=>h.g0.lt
      | 1,_=>h.g1.lt
      | 2,_=>h.g2.lt
      | 3,_=>h.g3.lt
      | 4,_=>h.g4.lt
    exact absurd h1 (Nat.not_le.2 (h2 _ hg))
  · exact hS _ hg h1
def fareboxlaw08_marked_b1 (k63:(List (Int))→Option (((List Int)×Int))) (k98:(List (Int))→(Int)→Option (((List Int)×Int))) (l95:List (Int)) (i97:Int):Option (((List Int)×Int)) :=
 br ((decide (i97<130))) (
 chk (decide ((l95.length+([165]:List (Int)).length)*1≤140737488355328)) <|
 bnd (l95++([165]:List (Int))) fun l107 =>
 bnd (IntKind.wrap .i64 (i97+1)) fun z112 =>
 k98 l107 z112
 ) (
 k63 l95
 )
def fareboxlaw08_marked_l1 (k63:(List (Int))→Option (((List Int)×Int))):Nat→(List (Int))→(Int)→Option (((List Int)×Int))
  | 0,_,_=>none
  | n+1,l95,i97=>fareboxlaw08_marked_b1 k63 (fareboxlaw08_marked_l1 k63 n) l95 i97
def fareboxlaw08_marked (p0:List Int):Option (((List Int)×Int)) :=
 chk (decide ((([]:List (Int)).length+p0.length)*1≤140737488355328)) <|
 bnd (([]:List (Int))++p0) fun l5 =>
 jn (fun (l61:List (Int))=>chk (cutB 0 (p0.length:Int) l61.length) <|
 some (l61,(p0.length:Int))) fun k63=>fareboxlaw08_marked_l1 k63 big l5 0
theorem fareboxlaw08_marked_spec {W:World} {r:((List Int)×Int)} {p0:List Int} {v0:Value} (h:fareboxlaw08_marked p0=some r) (A0:RdSl (El.int .u8) W v0 p0) :
    Calls Tryz.prog 10 [v0].toArray W (retS W [] (fun v Ms=>∃ (u0:Value) (M0:List Chunk),v=(cutSl 1 u0 0 (r.2).toNat)∧Ms = [.all M0]∧OwnSl (El.int .u8) u0 M0 r.1∧cutB 0 r.2 (r.1).length=true)):=by
 unfold fareboxlaw08_marked at h
 refine calls_memT mo ok10 rfl (sat0 _) ?_
 refine wc_seq<|wc_ops<|wj_m rfl<|wj_nil<|wc_seq<|wc_ops<|wj_m rfl<|wj_nil<|wc_seq<|cH h fun c4 h=>bH h fun l5 el5 h=>wc_ops<|wj_m rfl<|wj_m rfl<|wj_e (ef_appO (E:=(El.int .u8)) el5 rfl own_nil .here rfl (rd_arg A0 apart0) c4 fun v6 ms7 O8=>wj_m rfl<|wj_nil<|wc_seq<|wc_seq<|wc_ops<|wj_m rfl<|wj_nil<|jH h fun k63 qk63 h=>wc_mono2 (G:=fun t m=>∃ (l61:List (Int)) (v59:Value) (ms60:List Chunk),k63 l61=some r∧OwnSl (El.int .u8) v59 ms60 l61∧Fit [(0,v0),(3,v59)] (ms60 ++ []) t m) ?_ ?_)
 ·refine wc_block<|wc_loopJ (fun n99 t m=>∃ (l95:List (Int)) (i97:Int) (v93:Value) (ms94:List Chunk),fareboxlaw08_marked_l1 k63 n99 l95 i97=some r∧OwnSl (El.int .u8) v93 ms94 l95∧Fit [(0,v0),(3,v93),(4,.int .i64 (i97))] (ms94 ++ []) t m) big ?_ ?_
  ·exact ⟨l5,0,v6,ms7,h,O8,⟨⟨rfl,rfl,rfl,trivial⟩,(.all .here .nil)⟩⟩
  ·rintro n99 t m ⟨l95,i97,v93,ms94,h,O96,hF⟩
   refine wc_fit hF ?_
   clear hF
   rcases n99 with _ | n99
   · exact none_i h
   have h:fareboxlaw08_marked_b1 k63 (fareboxlaw08_marked_l1 k63 n99) l95 i97=some r:=h
   unfold fareboxlaw08_marked_b1 at h
   obtain ⟨k98,qk98⟩ : ∃ k,k=fareboxlaw08_marked_l1 k63 n99:=⟨_,rfl⟩
   try rw [← qk98] at h
   refine wc_seq<|wc_seq<|wc_ops<|wj_m rfl<|wj_q _ (q_bin rfl rfl rfl)<|wj_nil<|wc_br h rfl (fun h=>?_) (fun h=>?_)
   ·refine wc_skip<|wc_seq<|wc_block<|cH h fun c106 h=>bH h fun l107 el107 h=>wc_ops<|wj_m rfl<|wj_e (ef_bsO (E:=(El.int .u8)) (xs:=[165]) (.one rfl rfl rfl BdR.nil) (.cons (p:=[.one (.int .u8 (165))]) rfl .nil) rfl fun v103 ms104 O105=>wj_e (ef_appO (E:=(El.int .u8)) el107 rfl O96 (.app .here) rfl (rd_own O105 .here) c106 fun v108 ms109 O110=>wj_m rfl<|wj_nil<|bH h fun z112 ez112 h=>wc_ops<|wj_m rfl<|wj_q _ (iz ez112 (q_bin rfl rfl rfl))<|wj_m rfl<|wj_nil ?_))
    rw [qk98] at h
    exact ⟨n99,Nat.lt_succ_self _,l107,z112,v108,ms109,h,O110,⟨⟨rfl,rfl,rfl,trivial⟩,(.all .here .nil)⟩⟩
   ·exact wc_exit _ rfl<|⟨l95,v93,ms94,h,O96,⟨⟨rfl,rfl,trivial⟩,(.all .here .nil)⟩⟩
 ·rintro t m ⟨l61,v59,ms60,h,O62,hF⟩
  refine wc_fit hF ?_
  clear hF
  subst qk63
  refine wc_seq<|cH h fun c114 h=>wc_ops<|wj_m rfl<|wj_m rfl<|wj_q _ (q_lenP rfl (Shp.rd A0))<|wj_q _ (q_slsP (lz:=0) (hz:=(p0.length:Int)) rfl (Shp.own O62) .no (.yes rfl) c114)<|wj_m rfl<|wj_nil<|wc_ret ?_
  revert h; refine ret_i fun h=>?_
  subst h
  exact ⟨_,_,(.cons (.tmp rfl) .nil),(.all .here .nil),⟨_,rfl,⟨v59,ms60,rfl,rfl,O62,c114⟩⟩⟩
structure sha512_Digest where
  gstate:List Int
  gheld:List Int
  ghave:Int
  glength:Int
def sha512_New:Option (sha512_Digest) :=
 some (⟨G_first,(List.replicate 128 0),0,0⟩:sha512_Digest)
theorem sha512_New_spec {W:World} {r:sha512_Digest} (h:sha512_New=some r) (hG:Globs W) :
    Calls Tryz.prog 96 [].toArray W (retS W [] (fun v Ms=>∃ (b0:Nat) (T0:TypeId),v = .pointer (some ⟨b0,0,none⟩)∧Ms = [.one (ck b0 T0 [.ints .u64 8 (r.gstate),.ints .u8 128 (r.gheld),.one (.int .i64 (r.ghave)),.one (.int .u64 (r.glength))])])):=by
 unfold sha512_New at h
 refine calls_memT mo ok96 rfl (sat0 _) ?_
 refine wc_seq<|wc_ops<|wj_m rfl<|wj_nil<|wc_seq<|wc_ops<|wj_q _ (q_mem (o0:=0) (off:=0) rfl (hG.g2) (by simp) rfl)<|wj_q _ (q_bd (q:=[.ints .u64 8 (G_first),.ints .u8 128 ((List.replicate 128 0)),.one (.int .i64 (0)),.one (.int .u64 (0))]) (.agg rfl rfl rfl BdR.nil))<|wj_e (ef_bx (s:=[.ints .u64 8 (G_first),.ints .u8 128 ((List.replicate 128 0)),.one (.int .i64 (0)),.one (.int .u64 (0))]) rfl fun b3 hb3=>wj_m rfl<|wj_nil<|wc_ret ?_)
 revert h; refine ret_i fun h=>?_
 subst h
 exact ⟨_,_,(.cons (.tmp rfl) .nil),(.one .here .nil),⟨_,rfl,⟨b3,194,rfl,rfl⟩⟩⟩
def bits_width_uint64_b1 (k29:(Int)→Option (Int)) (k45:(Int)→(Int)→Option (Int)) (i43:Int) (i44:Int):Option (Int) :=
 br ((i44 != 0)) (
 bnd (IntKind.wrap .i64 (i43+1)) fun z50 =>
 bnd (shrV .u64 i44 1) fun z52 =>
 k45 z50 z52
 ) (
 k29 i43
 )
def bits_width_uint64_l1 (k29:(Int)→Option (Int)):Nat→(Int)→(Int)→Option (Int)
  | 0,_,_=>none
  | n+1,i43,i44=>bits_width_uint64_b1 k29 (bits_width_uint64_l1 k29 n) i43 i44
def bits_width_uint64:Option (Int) :=
 bnd (bitsV .xor .u64 18446744073709551615 0) fun z4 =>
 jn (fun (i28:Int)=>some i28) fun k29=>bits_width_uint64_l1 k29 big 0 z4
theorem bits_width_uint64_spec {W:World} {r:Int} (h:bits_width_uint64=some r)  :
    Calls Tryz.prog 183 [].toArray W (ret1 W (.int .i64 (r))):=by
 unfold bits_width_uint64 at h
 refine calls_val mo ok183 rfl ?_
 refine wc_seq<|wc_ops<|wj_m rfl<|wj_nil<|wc_seq<|wc_ops<|wj_m rfl<|wj_nil<|wc_seq<|wc_seq<|bH h fun z4 ez4 h=>wc_ops<|wj_q _ (q_conv rfl)<|wj_q _ (iz ez4 (q_un rfl rfl))<|wj_m rfl<|wj_nil<|jH h fun k29 qk29 h=>wc_mono2 (G:=fun t m=>∃ (i28:Int),k29 i28=some r∧Fit [(1,.int .i64 (i28))] [] t m) ?_ ?_
 ·refine wc_block<|wc_loopJ (fun n46 t m=>∃ (i43:Int) (i44:Int),bits_width_uint64_l1 k29 n46 i43 i44=some r∧Fit [(1,.int .i64 (i43)),(2,.int .u64 (i44))] [] t m) big ?_ ?_
  ·exact ⟨0,z4,h,⟨⟨rfl,rfl,trivial⟩,.nil⟩⟩
  ·rintro n46 t m ⟨i43,i44,h,hF⟩
   refine wc_fit hF ?_
   clear hF
   rcases n46 with _ | n46
   · exact none_i h
   have h:bits_width_uint64_b1 k29 (bits_width_uint64_l1 k29 n46) i43 i44=some r:=h
   unfold bits_width_uint64_b1 at h
   obtain ⟨k45,qk45⟩ : ∃ k,k=bits_width_uint64_l1 k29 n46:=⟨_,rfl⟩
   try rw [← qk45] at h
   refine wc_seq<|wc_seq<|wc_ops<|wj_m rfl<|wj_q _ (q_bin rfl rfl rfl)<|wj_nil<|wc_br h rfl (fun h=>?_) (fun h=>?_)
   ·refine wc_skip<|wc_seq<|wc_block<|bH h fun z50 ez50 h=>wc_ops<|wj_m rfl<|wj_q _ (iz ez50 (q_bin rfl rfl rfl))<|wj_m rfl<|wj_nil<|bH h fun z52 ez52 h=>wc_ops<|wj_m rfl<|wj_q _ (iz ez52 (q_shr rfl rfl (by decide)))<|wj_m rfl<|wj_nil ?_
    rw [qk45] at h
    exact ⟨n46,Nat.lt_succ_self _,z50,z52,h,⟨⟨rfl,rfl,trivial⟩,.nil⟩⟩
   ·exact wc_exit _ rfl<|⟨i43,h,⟨⟨rfl,trivial⟩,.nil⟩⟩
 ·rintro t m ⟨i28,h,hF⟩
  refine wc_fit hF ?_
  clear hF
  subst qk29
  refine wc_seq<|wc_ops<|wj_m rfl<|wj_m rfl<|wj_nil<|wc_ret ?_
  revert h; refine ret_i fun h=>?_
  subst h
  exact ⟨_,(.cons (.tmp rfl) .nil),rfl⟩
def bits_piece_uint64 (p0:List Int) (p1:Int):Option ((Bool×List Int)) :=
 opt (bits_width_uint64) fun y3 =>
 bnd (IntKind.wrap .i64 (Int.tdiv y3 8)) fun z4 =>
 br (((decide (p1<0))||(decide (p1>IntKind.wrap .i64 ((p0.length:Int)-z4))))) (
 some (true,[])
 ) (
 bnd (IntKind.wrap .i64 (p1+z4)) fun z9 =>
 chk (cutB p1 z9 p0.length) <|
 chk (decide (0<((p0.drop (p1).toNat).take ((z9).toNat-(p1).toNat)).length)) <|
 some (false,((p0.drop (p1).toNat).take ((z9).toNat-(p1).toNat)))
 )
theorem bits_piece_uint64_spec {W:World} {r:(Bool×List Int)} {p0:List Int} {p1:Int} {v0:Value} (h:bits_piece_uint64 p0 p1=some r) (A0:RdSl (El.int .u8) W v0 p0) :
    Calls Tryz.prog 203 [v0,.int .i64 (p1)].toArray W (retS W [] (fun v Ms=>∃ (u0:Value),v=u0∧Ms = []∧Shp u0 (r.2).length∧isNilV u0=r.1∧(∀ W,RdSl (El.int .u8) W v0 p0→RdSl (El.int .u8) W u0 r.2))):=by
 unfold bits_piece_uint64 at h
 refine calls_memT mo ok203 rfl (sat0 _) ?_
 refine wc_seq<|wc_ops<|wj_m rfl<|wj_nil<|wc_seq<|oH h fun y3 ey3 h=>bH h fun z4 ez4 h=>wc_ops<|wj_q _ (q_cl rfl (bits_width_uint64_spec ey3))<|wj_q _ (iz ez4 (q_quo rfl rfl (by decide)))<|wj_m rfl<|wj_nil<|wc_seq<|wc_seq<|wc_ops<|wj_m rfl<|wj_q _ (q_bin rfl rfl rfl)<|wj_m rfl<|wj_or rfl rfl rfl (fun hg1=>qj_g rfl _ (q_mv rfl) (qj_g rfl _ (q_mv rfl) (qj_g rfl _ (q_lenP rfl (Shp.rd A0)) (qj_g rfl _ (q_mv rfl) (qj_g rfl _ (iz rfl (q_bin rfl rfl rfl)) (qj_g rfl _ (q_bin rfl rfl rfl) (qj_nil))))))) (fun hg1=>rfl) rfl<|wj_nil<|wc_br h rfl (fun h=>?_) (fun h=>?_)
 ·refine wc_seq<|wc_ops<|wj_m rfl<|wj_nil<|wc_ret ?_
  revert h; refine ret_i fun h=>?_
  subst h
  exact ⟨_,_,(.cons (.tmp rfl) .nil),.nil,⟨_,rfl,⟨(.slice none 0 0),rfl,rfl,Shp.nil,rfl,view_nil⟩⟩⟩
 ·refine wc_skip<|wc_seq<|bH h fun z9 ez9 h=>cH h fun c10 h=>wc_ops<|wj_m rfl<|wj_m rfl<|wj_m rfl<|wj_m rfl<|wj_q _ (iz ez9 (q_bin rfl rfl rfl))<|wj_q _ (q_slsP (lz:=p1) (hz:=z9) rfl (Shp.rd A0) (.yes rfl) (.yes rfl) c10)<|wj_m rfl<|wj_nil<|wc_ret<|cH h fun c11 h=>?_
  revert h; refine ret_i fun h=>?_
  subst h
  exact ⟨_,_,(.cons (.tmp rfl) .nil),.nil,⟨_,rfl,⟨(cutSl 1 v0 (p1).toNat (z9).toNat),rfl,rfl,(Shp.cut (Shp.rd A0) (lz:=p1) (hz:=z9) c10),(Shp.notnil (Shp.cut (Shp.rd A0) (lz:=p1) (hz:=z9) c10) c11),(fun W A0=>(rdcut A0 (lz:=p1) (hz:=z9) c10))⟩⟩⟩
def bits_LoadBE_uint64_b1 (y4:(Bool×List Int)) (k50:(Int)→Option (Int×Bool)) (k75:(Int)→(Int)→Option (Int×Bool)) (i73:Int) (i74:Int):Option (Int×Bool) :=
 br ((decide (i74<(y4.2.length:Int)))) (
 chk (inB i74 y4.2.length) <|
 bnd (y4.2.getD (i74).toNat 0) fun z81 =>
 bnd (shlV .u64 i73 8) fun z83 =>
 bnd (IntKind.wrap .u64 z81) fun z84 =>
 bnd (bitsV .or .u64 z83 z84) fun z85 =>
 bnd (IntKind.wrap .i64 (i74+1)) fun z87 =>
 k75 z85 z87
 ) (
 k50 i73
 )
def bits_LoadBE_uint64_l1 (y4:(Bool×List Int)) (k50:(Int)→Option (Int×Bool)):Nat→(Int)→(Int)→Option (Int×Bool)
  | 0,_,_=>none
  | n+1,i73,i74=>bits_LoadBE_uint64_b1 y4 k50 (bits_LoadBE_uint64_l1 y4 k50 n) i73 i74
def bits_LoadBE_uint64 (p0:List Int) (p1:Int):Option (Int×Bool) :=
 opt (bits_piece_uint64 p0 p1) fun y4 =>
 jn (fun (i49:Int)=>some (i49,(!y4.1))) fun k50=>bits_LoadBE_uint64_l1 y4 k50 big 0 0
theorem bits_LoadBE_uint64_spec {W:World} {r:Int×Bool} {p0:List Int} {p1:Int} {v0:Value} (h:bits_LoadBE_uint64 p0 p1=some r) (A0:RdSl (El.int .u8) W v0 p0) :
    Calls Tryz.prog 218 [v0,.int .i64 (p1)].toArray W (ret1 W (.tuple #[.int .u64 (r.1),.bool (r.2)])):=by
 unfold bits_LoadBE_uint64 at h
 refine calls_val mo ok218 rfl ?_
 refine wc_seq<|wc_ops<|wj_m rfl<|wj_m rfl<|wj_nil<|wc_seq<|wc_ops<|wj_m rfl<|wj_nil<|wc_seq<|oH h fun y4 ey4 h=>wc_ops<|wj_m rfl<|wj_m rfl<|wj_e (ef_callS0 rfl (fun w hw=>bits_piece_uint64_spec  ey4 ((rd_arg A0 apart0) w hw)) fun v5 Msv5 R6=>?_)
 obtain ⟨_,rfl,rfl,P10,N8,H9⟩:=R6
 refine wj_m rfl<|wj_nil<|wc_seq<|wc_seq<|wc_ops<|wj_m rfl<|wj_q _ (q_lenP rfl P10)<|wj_m rfl<|wj_nil<|jH h fun k50 qk50 h=>wc_mono2 (G:=fun t m=>∃ (i49:Int),k50 i49=some r∧Fit [(6,.int .u64 (i49)),(7,v5)] [] t m) ?_ ?_
 ·refine wc_block<|wc_loopJ (fun n76 t m=>∃ (i73:Int) (i74:Int),bits_LoadBE_uint64_l1 y4 k50 n76 i73 i74=some r∧Fit [(6,.int .u64 (i73)),(7,v5),(13,v5),(14,.int .i64 ((y4.2.length:Int))),(15,.int .i64 (i74))] [] t m) big ?_ ?_
  ·exact ⟨0,0,h,⟨⟨rfl,rfl,rfl,rfl,rfl,trivial⟩,.nil⟩⟩
  ·rintro n76 t m ⟨i73,i74,h,hF⟩
   refine wc_fit hF ?_
   clear hF
   rcases n76 with _ | n76
   · exact none_i h
   have h:bits_LoadBE_uint64_b1 y4 k50 (bits_LoadBE_uint64_l1 y4 k50 n76) i73 i74=some r:=h
   unfold bits_LoadBE_uint64_b1 at h
   obtain ⟨k75,qk75⟩ : ∃ k,k=bits_LoadBE_uint64_l1 y4 k50 n76:=⟨_,rfl⟩
   try rw [← qk75] at h
   refine wc_seq<|wc_ops<|wj_q _ (q_bin rfl rfl rfl)<|wj_nil<|wc_seq<|wc_br h rfl (fun h=>?_) (fun h=>?_)
   ·refine wc_skip<|wc_seq<|wc_block<|wc_seq<|cH h fun c80 h=>bH h fun z81 ez81 h=>wc_ops<|wj_q _ (q_iasP rfl rfl P10 c80)<|wj_q _ (iz ez81 (q_ldM10 (E:=(El.int .u8)) (s:=[.one (.int .u8 (y4.2.getD (i74).toNat 0))]) rfl (rd_view H9 (rd_arg A0 apart0)) (inB_n c80) rfl rfl))<|wj_m rfl<|wj_nil<|bH h fun z83 ez83 h=>bH h fun z84 ez84 h=>bH h fun z85 ez85 h=>wc_ops<|wj_m rfl<|wj_q _ (iz ez83 (q_shl rfl rfl (by decide)))<|wj_m rfl<|wj_q _ (iz ez84 (q_conv rfl))<|wj_q _ (iz ez85 (q_bin rfl rfl rfl))<|wj_m rfl<|wj_nil<|bH h fun z87 ez87 h=>wc_ops<|wj_q _ (iz ez87 (q_bin rfl rfl rfl))<|wj_m rfl<|wj_nil ?_
    rw [qk75] at h
    exact ⟨n76,Nat.lt_succ_self _,z85,z87,h,⟨⟨rfl,rfl,rfl,rfl,rfl,trivial⟩,.nil⟩⟩
   ·exact wc_exit _ rfl<|⟨i73,h,⟨⟨rfl,rfl,trivial⟩,.nil⟩⟩
 ·rintro t m ⟨i49,h,hF⟩
  refine wc_fit hF ?_
  clear hF
  subst qk50
  refine wc_seq<|wc_ops<|wj_m rfl<|wj_m rfl<|wj_q _ (q_isnP rfl P10 N8)<|wj_m rfl<|wj_m rfl<|wj_nil<|wc_ret ?_
  revert h; refine ret_i fun h=>?_
  subst h
  exact ⟨_,(.cons (.tmp rfl) (.cons (.tmp rfl) .nil)),rfl⟩
def bits_RotR_uint64 (p0:Int) (p1:Int):Option (Int) :=
 opt (bits_width_uint64) fun y3 =>
 bnd (IntKind.wrap .u64 p1) fun z5 =>
 bnd (IntKind.wrap .i64 (y3-1)) fun z6 =>
 bnd (IntKind.wrap .u64 z6) fun z7 =>
 bnd (bitsV .and .u64 z5 z7) fun z8 =>
 chk (decide (0≤z8)) <|
 bnd (shrV .u64 p0 z8) fun z11 =>
 bnd (IntKind.wrap .u64 y3) fun z12 =>
 bnd (IntKind.wrap .u64 (z12-z8)) fun z13 =>
 chk (decide (0≤z13)) <|
 bnd (shlV .u64 p0 z13) fun z15 =>
 bnd (bitsV .or .u64 z11 z15) fun z16 =>
 some z16
theorem bits_RotR_uint64_spec {W:World} {r:Int} {p0:Int} {p1:Int} (h:bits_RotR_uint64 p0 p1=some r)  :
    Calls Tryz.prog 220 [.int .u64 (p0),.int .i64 (p1)].toArray W (ret1 W (.int .u64 (r))):=by
 unfold bits_RotR_uint64 at h
 refine calls_val mo ok220 rfl ?_
 refine wc_seq<|wc_ops<|wj_m rfl<|wj_nil<|wc_seq<|oH h fun y3 ey3 h=>wc_ops<|wj_q _ (q_cl rfl (bits_width_uint64_spec ey3))<|wj_m rfl<|wj_nil<|wc_seq<|bH h fun z5 ez5 h=>bH h fun z6 ez6 h=>bH h fun z7 ez7 h=>bH h fun z8 ez8 h=>wc_ops<|wj_m rfl<|wj_q _ (iz ez5 (q_conv rfl))<|wj_m rfl<|wj_q _ (iz ez6 (q_bin rfl rfl rfl))<|wj_q _ (iz ez7 (q_conv rfl))<|wj_q _ (iz ez8 (q_bin rfl rfl rfl))<|wj_m rfl<|wj_nil<|wc_seq<|cH h fun c10 h=>bH h fun z11 ez11 h=>bH h fun z12 ez12 h=>bH h fun z13 ez13 h=>cH h fun c14 h=>bH h fun z15 ez15 h=>bH h fun z16 ez16 h=>wc_ops<|wj_m rfl<|wj_m rfl<|wj_q _ (iz ez11 (q_shr rfl rfl (of_decide_eq_true c10)))<|wj_m rfl<|wj_m rfl<|wj_q _ (iz ez12 (q_conv rfl))<|wj_m rfl<|wj_q _ (iz ez13 (q_bin rfl rfl rfl))<|wj_q _ (iz ez15 (q_shl rfl rfl (of_decide_eq_true c14)))<|wj_q _ (iz ez16 (q_bin rfl rfl rfl))<|wj_m rfl<|wj_nil<|wc_ret ?_
 revert h; refine ret_i fun h=>?_
 subst h
 exact ⟨_,(.cons (.tmp rfl) .nil),rfl⟩
def sha512_bend (p0:Int) (p1:Int) (p2:Int) (p3:Int):Option (Int) :=
 opt (bits_RotR_uint64 p0 p1) fun y3 =>
 opt (bits_RotR_uint64 p0 p2) fun y4 =>
 bnd (bitsV .xor .u64 y3 y4) fun z5 =>
 chk (decide (0≤p3)) <|
 bnd (shrV .u64 p0 p3) fun z7 =>
 bnd (bitsV .xor .u64 z5 z7) fun z8 =>
 some z8
theorem sha512_bend_spec {W:World} {r:Int} {p0:Int} {p1:Int} {p2:Int} {p3:Int} (h:sha512_bend p0 p1 p2 p3=some r)  :
    Calls Tryz.prog 219 [.int .u64 (p0),.int .i64 (p1),.int .i64 (p2),.int .i64 (p3)].toArray W (ret1 W (.int .u64 (r))):=by
 unfold sha512_bend at h
 refine calls_val mo ok219 rfl ?_
 refine wc_seq<|wc_ops<|wj_m rfl<|wj_nil<|wc_seq<|oH h fun y3 ey3 h=>oH h fun y4 ey4 h=>bH h fun z5 ez5 h=>cH h fun c6 h=>bH h fun z7 ez7 h=>bH h fun z8 ez8 h=>wc_draw<|ws_p1 _ (q_mv rfl)<|ws_p1 _ (q_mv rfl)<|ws_p1 _ (q_cl rfl (bits_RotR_uint64_spec ey3))<|ws_p1 _ (q_mv rfl)<|ws_p1 _ (q_mv rfl)<|ws_p1 _ (q_cl rfl (bits_RotR_uint64_spec ey4))<|ws_p1 _ (iz ez5 (q_bin rfl rfl rfl))<|ws_p1 _ (q_mv rfl)<|ws_p1 _ (q_mv rfl)<|ws_p1 _ (iz ez7 (q_shr rfl rfl (of_decide_eq_true c6)))<|ws_p1 _ (iz ez8 (q_bin rfl rfl rfl))<|ws_p1 _ (q_mv rfl)<|ws_nil<|wc_ret ?_
 revert h; refine ret_i fun h=>?_
 subst h
 exact ⟨_,(.cons (.tmp rfl) .nil),rfl⟩
def sha512_Schedule_b1 (p0:List Int) (k152:(List Int)→OL) (k233:(Int)→(List Int)→OL) (i231:Int) (a232:List Int):OL :=
 br ((decide (i231<80))) (
 jn (fun (a265:List Int)=>bnd (IntKind.wrap .i64 (i231+1)) fun z296 =>
 k233 z296 a265) fun k266=>br ((decide (i231<16))) (
 bnd (IntKind.wrap .i64 (8*i231)) fun z271 =>
 opt (bits_LoadBE_uint64 (tk p0 0 128) z271) fun y272 =>
 chk (inB i231 80) <|
 bnd (setD a232 (i231).toNat y272.1) fun l274 =>
 k266 l274
 ) (
 bnd (IntKind.wrap .i64 (i231-2)) fun z276 =>
 chk (inB z276 80) <|
 bnd (IntKind.wrap .i64 (i231-7)) fun z278 =>
 chk (inB z278 80) <|
 bnd (IntKind.wrap .i64 (i231-15)) fun z280 =>
 chk (inB z280 80) <|
 bnd (IntKind.wrap .i64 (i231-16)) fun z282 =>
 chk (inB z282 80) <|
 bnd (a232.getD (z276).toNat 0) fun z284 =>
 opt (sha512_bend z284 19 61 6) fun y285 =>
 bnd (a232.getD (z278).toNat 0) fun z286 =>
 bnd (IntKind.wrap .u64 (y285+z286)) fun z287 =>
 bnd (a232.getD (z280).toNat 0) fun z288 =>
 opt (sha512_bend z288 1 8 7) fun y289 =>
 bnd (IntKind.wrap .u64 (z287+y289)) fun z290 =>
 bnd (a232.getD (z282).toNat 0) fun z291 =>
 bnd (IntKind.wrap .u64 (z290+z291)) fun z292 =>
 chk (inB i231 80) <|
 bnd (setD a232 (i231).toNat z292) fun l294 =>
 k266 l294
 )
 ) (
 k152 a232
 )
def sha512_Schedule_l1 (p0:List Int) (k152:(List Int)→OL):Nat→(Int)→(List Int)→OL
  | 0,_,_=>none
  | n+1,i231,a232=>sha512_Schedule_b1 p0 k152 (sha512_Schedule_l1 p0 k152 n) i231 a232
def sha512_Schedule (p0:List Int):OL :=
 jn (fun (a151:List Int)=>some a151) fun k152=>sha512_Schedule_l1 p0 k152 big 0 (List.replicate 80 0)
theorem sha512_Schedule_spec {W:World} {r:(List Int)} {p0:List Int} (h:sha512_Schedule p0=some r)  :
    Calls Tryz.prog 201 [agg [.ints .u8 128 (p0)]].toArray W (ret1 W (agg [.ints .u64 80 (r)])):=by
 unfold sha512_Schedule at h
 refine calls_val mo ok201 rfl ?_
 refine wc_seq<|wc_ops<|wj_e (ef_bx (s:=[.ints .u8 128 (p0)]) rfl fun b2 hb2=>wj_e (ef_al fun b3 hb3=>wj_nil<|wc_seq<|wc_ops<|wj_e (ef_al fun b5 hb5=>wj_nil<|wc_seq<|wc_seq<|wc_ops<|wj_m rfl<|wj_nil<|jH h fun k152 qk152 h=>wc_mono2 (G:=fun t m=>∃ (a151:List Int),k152 a151=some r∧Fit [(2,.pointer (some ⟨b3,0,none⟩)),(3,.pointer (some ⟨b5,0,none⟩))] (ck b5 211 [.ints .u64 80 (a151)]::(ck b3 211 [.ints .u64 80 ((List.replicate 80 0))]::(ck b2 192 [.ints .u8 128 (p0)] :: []))) t m) ?_ ?_)))
 ·refine wc_block<|wc_loopJ (fun n234 t m=>∃ (i231:Int) (a232:List Int),sha512_Schedule_l1 p0 k152 n234 i231 a232=some r∧Fit [(1,.pointer (some ⟨b2,0,none⟩)),(2,.pointer (some ⟨b3,0,none⟩)),(3,.pointer (some ⟨b5,0,none⟩)),(5,.int .i64 (i231))] (ck b5 211 [.ints .u64 80 (a232)]::(ck b3 211 [.ints .u64 80 ((List.replicate 80 0))]::(ck b2 192 [.ints .u8 128 (p0)] :: []))) t m) big ?_ ?_
  ·exact ⟨0,(List.replicate 80 0),h,⟨⟨rfl,rfl,rfl,rfl,trivial⟩,(.one .here (.one .here (.one .here .nil)))⟩⟩
  ·rintro n234 t m ⟨i231,a232,h,hF⟩
   refine wc_fit hF ?_
   clear hF
   rcases n234 with _ | n234
   · exact none_i h
   have h:sha512_Schedule_b1 p0 k152 (sha512_Schedule_l1 p0 k152 n234) i231 a232=some r:=h
   unfold sha512_Schedule_b1 at h
   obtain ⟨k233,qk233⟩ : ∃ k,k=sha512_Schedule_l1 p0 k152 n234:=⟨_,rfl⟩
   try rw [← qk233] at h
   refine wc_seq<|wc_ops<|wj_q _ (q_bin rfl rfl rfl)<|wj_nil<|wc_seq<|wc_br h rfl (fun h=>?_) (fun h=>?_)
   ·refine wc_skip<|wc_seq<|jH h fun k266 qk266 h=>wc_mono2 (G:=fun t m=>∃ (a265:List Int),k266 a265=some r∧Fit [(1,.pointer (some ⟨b2,0,none⟩)),(2,.pointer (some ⟨b3,0,none⟩)),(3,.pointer (some ⟨b5,0,none⟩)),(5,.int .i64 (i231))] (ck b5 211 [.ints .u64 80 (a265)]::(ck b3 211 [.ints .u64 80 ((List.replicate 80 0))]::(ck b2 192 [.ints .u8 128 (p0)] :: []))) t m) ?_ ?_
    ·refine wc_block<|wc_seq<|wc_ops<|wj_m rfl<|wj_m rfl<|wj_nil<|wc_seq<|wc_seq<|wc_ops<|wj_m rfl<|wj_q _ (q_bin rfl rfl rfl)<|wj_nil<|wc_br h rfl (fun h=>?_) (fun h=>?_)
     ·exact wc_seq<|bH h fun z271 ez271 h=>oH h fun y272 ey272 h=>cH h fun c273 h=>bH h fun l274 el274 h=>wc_ops<|wj_m rfl<|wj_q _ (q_sla rfl .no .no .no (by simp) (by decide))<|wj_m rfl<|wj_q _ (iz ez271 (q_bin rfl rfl rfl))<|wj_q _ (q_call rfl (fun w hw=>bits_LoadBE_uint64_spec ey272 ((rd_blk_i (s:=[.ints .u8 128 (p0)]) (N:=128) (k:=.u8) (base:=0) (lo:=0) (hi:=128) (mz:=128) (.there (.there .here)) rfl (by decide)) w hw)))<|wj_m rfl<|wj_q _ (q_ext rfl rfl)<|wj_q _ (q_ext rfl rfl)<|wj_q _ (q_ia rfl rfl (inB_z c273))<|wj_e (ef_stiz (q:=[.ints .u64 80 (l274)]) (base:=0) el274 rfl rfl rfl (inB_n c273) rfl .here<|wj_nil<|wc_exit _ rfl<|⟨l274,h,⟨⟨rfl,rfl,rfl,rfl,trivial⟩,(.one .here (.one .here (.one .here .nil)))⟩⟩)
     ·exact wc_skip<|bH h fun z276 ez276 h=>cH h fun c277 h=>bH h fun z278 ez278 h=>cH h fun c279 h=>bH h fun z280 ez280 h=>cH h fun c281 h=>bH h fun z282 ez282 h=>cH h fun c283 h=>bH h fun z284 ez284 h=>oH h fun y285 ey285 h=>bH h fun z286 ez286 h=>bH h fun z287 ez287 h=>bH h fun z288 ez288 h=>oH h fun y289 ey289 h=>bH h fun z290 ez290 h=>bH h fun z291 ez291 h=>bH h fun z292 ez292 h=>cH h fun c293 h=>bH h fun l294 el294 h=>wc_draw<|ws_p1 _ (q_mv rfl)<|ws_p1 _ (q_mv rfl)<|ws_p1 _ (iz ez276 (q_bin rfl rfl rfl))<|ws_p1 _ (q_ia rfl rfl (inB_z c277))<|ws_p1 _ (q_mv rfl)<|ws_p1 _ (iz ez278 (q_bin rfl rfl rfl))<|ws_p1 _ (q_ia rfl rfl (inB_z c279))<|ws_p1 _ (q_mv rfl)<|ws_p1 _ (iz ez280 (q_bin rfl rfl rfl))<|ws_p1 _ (q_ia rfl rfl (inB_z c281))<|ws_p1 _ (q_mv rfl)<|ws_p1 _ (iz ez282 (q_bin rfl rfl rfl))<|ws_p1 _ (q_ia rfl rfl (inB_z c283))<|ws_q1 _ (iz ez284 (q_ldi (base:=0) rfl .here rfl (inB_n c277)))<|ws_p1 _ (q_cl rfl (sha512_bend_spec ey285))<|ws_q1 _ (iz ez286 (q_ldi (base:=0) rfl .here rfl (inB_n c279)))<|ws_p1 _ (iz ez287 (q_bin rfl rfl rfl))<|ws_q1 _ (iz ez288 (q_ldi (base:=0) rfl .here rfl (inB_n c281)))<|ws_p1 _ (q_cl rfl (sha512_bend_spec ey289))<|ws_p1 _ (iz ez290 (q_bin rfl rfl rfl))<|ws_q1 _ (iz ez291 (q_ldi (base:=0) rfl .here rfl (inB_n c283)))<|ws_p1 _ (iz ez292 (q_bin rfl rfl rfl))<|ws_p1 _ (q_ia rfl rfl (inB_z c293))<|ws_eL rfl (ef_stiz (q:=[.ints .u64 80 (l294)]) (base:=0) el294 rfl rfl rfl (inB_n c293) rfl .here<|ws_nil<|⟨l294,h,⟨⟨rfl,rfl,rfl,rfl,trivial⟩,(.one .here (.one .here (.one .here .nil)))⟩⟩)
    ·rintro t m ⟨a265,h,hF⟩
     refine wc_fit hF ?_
     clear hF
     subst qk266
     refine bH h fun z296 ez296 h=>wc_ops<|wj_q _ (iz ez296 (q_bin rfl rfl rfl))<|wj_m rfl<|wj_nil ?_
     rw [qk233] at h
     exact ⟨n234,Nat.lt_succ_self _,z296,a265,h,⟨⟨rfl,rfl,rfl,rfl,trivial⟩,(.one .here (.one .here (.one .here .nil)))⟩⟩
   ·exact wc_exit _ rfl<|⟨a232,h,⟨⟨rfl,rfl,trivial⟩,(.one .here (.one .here (.one .here .nil)))⟩⟩
 ·rintro t m ⟨a151,h,hF⟩
  refine wc_fit hF ?_
  clear hF
  subst qk152
  refine wc_seq<|wc_ops<|wj_q _ (q_ld (p:=[.ints .u64 80 (a151)]) rfl .here rfl)<|wj_e (ef_st (q:=[.ints .u64 80 (a151)]) rfl rfl rfl rfl rfl (.there .here)<|wj_nil<|wc_ret ?_)
  revert h; refine ret_i fun h=>?_
  subst h
  exact ⟨_,(.cons (.agg rfl (.there .here) rfl) .nil),rfl⟩
def sha512_mix (p0:Int) (p1:Int) (p2:Int) (p3:Int):Option (Int) :=
 opt (bits_RotR_uint64 p0 p1) fun y3 =>
 opt (bits_RotR_uint64 p0 p2) fun y4 =>
 bnd (bitsV .xor .u64 y3 y4) fun z5 =>
 opt (bits_RotR_uint64 p0 p3) fun y6 =>
 bnd (bitsV .xor .u64 z5 y6) fun z7 =>
 some z7
theorem sha512_mix_spec {W:World} {r:Int} {p0:Int} {p1:Int} {p2:Int} {p3:Int} (h:sha512_mix p0 p1 p2 p3=some r)  :
    Calls Tryz.prog 202 [.int .u64 (p0),.int .i64 (p1),.int .i64 (p2),.int .i64 (p3)].toArray W (ret1 W (.int .u64 (r))):=by
 unfold sha512_mix at h
 refine calls_val mo ok202 rfl ?_
 refine wc_seq<|wc_ops<|wj_m rfl<|wj_nil<|wc_seq<|oH h fun y3 ey3 h=>oH h fun y4 ey4 h=>bH h fun z5 ez5 h=>oH h fun y6 ey6 h=>bH h fun z7 ez7 h=>wc_ops<|wj_m rfl<|wj_m rfl<|wj_q _ (q_cl rfl (bits_RotR_uint64_spec ey3))<|wj_m rfl<|wj_m rfl<|wj_q _ (q_cl rfl (bits_RotR_uint64_spec ey4))<|wj_q _ (iz ez5 (q_bin rfl rfl rfl))<|wj_m rfl<|wj_m rfl<|wj_q _ (q_cl rfl (bits_RotR_uint64_spec ey6))<|wj_q _ (iz ez7 (q_bin rfl rfl rfl))<|wj_m rfl<|wj_nil<|wc_ret ?_
 revert h; refine ret_i fun h=>?_
 subst h
 exact ⟨_,(.cons (.tmp rfl) .nil),rfl⟩
def sha512_Block_b1 (y6:(List Int)) (k133:(Int)→(Int)→(Int)→(Int)→(Int)→(Int)→(Int)→(Int)→OL) (k208:(Int)→(Int)→(Int)→(Int)→(Int)→(Int)→(Int)→(Int)→(Int)→OL) (i199:Int) (i200:Int) (i201:Int) (i202:Int) (i203:Int) (i204:Int) (i205:Int) (i206:Int) (i207:Int):OL :=
 br ((decide (i207<80))) (
 chk (inB i207 80) <|
 bnd (G_table.getD (i207).toNat 0) fun z214 =>
 opt (sha512_mix i203 14 18 41) fun y216 =>
 bnd (IntKind.wrap .u64 (i206+y216)) fun z217 =>
 bnd (bitsV .and .u64 i203 i204) fun z218 =>
 bnd (bitsV .xor .u64 18446744073709551615 i203) fun z219 =>
 bnd (bitsV .and .u64 z219 i205) fun z220 =>
 bnd (bitsV .xor .u64 z218 z220) fun z221 =>
 bnd (IntKind.wrap .u64 (z217+z221)) fun z222 =>
 bnd (IntKind.wrap .u64 (z222+z214)) fun z223 =>
 chk (inB i207 80) <|
 bnd (y6.getD (i207).toNat 0) fun z225 =>
 bnd (IntKind.wrap .u64 (z223+z225)) fun z226 =>
 opt (sha512_mix i199 28 34 39) fun y228 =>
 bnd (bitsV .and .u64 i199 i200) fun z229 =>
 bnd (bitsV .and .u64 i199 i201) fun z230 =>
 bnd (bitsV .xor .u64 z229 z230) fun z231 =>
 bnd (bitsV .and .u64 i200 i201) fun z232 =>
 bnd (bitsV .xor .u64 z231 z232) fun z233 =>
 bnd (IntKind.wrap .u64 (y228+z233)) fun z234 =>
 bnd (IntKind.wrap .u64 (i202+z226)) fun z236 =>
 bnd (IntKind.wrap .u64 (z226+z234)) fun z237 =>
 bnd (IntKind.wrap .i64 (i207+1)) fun z239 =>
 k208 z237 i199 i200 i201 z236 i203 i204 i205 z239
 ) (
 k133 i199 i200 i201 i202 i203 i204 i205 i206
 )
def sha512_Block_l1 (y6:(List Int)) (k133:(Int)→(Int)→(Int)→(Int)→(Int)→(Int)→(Int)→(Int)→OL):Nat→(Int)→(Int)→(Int)→(Int)→(Int)→(Int)→(Int)→(Int)→(Int)→OL
  | 0,_,_,_,_,_,_,_,_,_=>none
  | n+1,i199,i200,i201,i202,i203,i204,i205,i206,i207=>sha512_Block_b1 y6 k133 (sha512_Block_l1 y6 k133 n) i199 i200 i201 i202 i203 i204 i205 i206 i207
def sha512_Block_b2 (z241:List Int) (k283:(List Int)→OL) (k309:(Int)→(List Int)→OL) (i307:Int) (a308:List Int):OL :=
 br ((decide (i307<8))) (
 chk (inB i307 8) <|
 bnd (z241.getD (i307).toNat 0) fun z315 =>
 chk (inB i307 8) <|
 bnd (a308.getD (i307).toNat 0) fun z318 =>
 bnd (IntKind.wrap .u64 (z318+z315)) fun z319 =>
 chk (inB i307 8) <|
 bnd (setD a308 (i307).toNat z319) fun l321 =>
 bnd (IntKind.wrap .i64 (i307+1)) fun z323 =>
 k309 z323 l321
 ) (
 k283 a308
 )
def sha512_Block_l2 (z241:List Int) (k283:(List Int)→OL):Nat→(Int)→(List Int)→OL
  | 0,_,_=>none
  | n+1,i307,a308=>sha512_Block_b2 z241 k283 (sha512_Block_l2 z241 k283 n) i307 a308
def sha512_Block (p0:List Int) (p1:List Int):OL :=
 opt (sha512_Schedule p1) fun y6 =>
 bnd (p0.getD 0 0) fun z9 =>
 bnd (p0.getD 1 0) fun z10 =>
 bnd (p0.getD 2 0) fun z11 =>
 bnd (p0.getD 3 0) fun z12 =>
 bnd (p0.getD 4 0) fun z14 =>
 bnd (p0.getD 5 0) fun z15 =>
 bnd (p0.getD 6 0) fun z16 =>
 bnd (p0.getD 7 0) fun z17 =>
 jn (fun (i125:Int) (i126:Int) (i127:Int) (i128:Int) (i129:Int) (i130:Int) (i131:Int) (i132:Int)=>bnd (([i125,i126,i127,i128,i129,i130,i131,i132]:List Int)) fun z241 =>
 jn (fun (a282:List Int)=>some a282) fun k283=>sha512_Block_l2 z241 k283 big 0 p0) fun k133=>sha512_Block_l1 y6 k133 big z9 z10 z11 z12 z14 z15 z16 z17 0
theorem sha512_Block_spec {W:World} {r:(List Int)} {p0:List Int} {p1:List Int} (h:sha512_Block p0 p1=some r) (hG:Globs W) :
    Calls Tryz.prog 159 [agg [.ints .u64 8 (p0)],agg [.ints .u8 128 (p1)]].toArray W (ret1 W (agg [.ints .u64 8 (r)])):=by
 unfold sha512_Block at h
 refine calls_val mo ok159 rfl ?_
 refine wc_seq<|wc_ops<|wj_e (ef_bx (s:=[.ints .u64 8 (p0)]) rfl fun b2 hb2=>wj_e (ef_bx (s:=[.ints .u8 128 (p1)]) rfl fun b3 hb3=>wj_e (ef_al fun b4 hb4=>wj_nil<|wc_seq<|oH h fun y6 ey6 h=>wc_ops<|wj_q _ (q_ld (p:=[.ints .u8 128 (p1)]) rfl (.there .here) rfl)<|wj_q _ (q_cl rfl (sha512_Schedule_spec ey6))<|wj_e (ef_al fun b7 hb7=>wj_e (ef_st (q:=[.ints .u64 80 (y6)]) rfl rfl rfl rfl rfl .here<|wj_nil<|wc_seq<|bH h fun z9 ez9 h=>bH h fun z10 ez10 h=>bH h fun z11 ez11 h=>bH h fun z12 ez12 h=>wc_draw<|ws_p1 _ (q_ia rfl rfl (by decide))<|ws_p1 _ (q_ia rfl rfl (by decide))<|ws_p1 _ (q_ia rfl rfl (by decide))<|ws_p1 _ (q_ia rfl rfl (by decide))<|ws_q1 _ (iz ez9 (q_ld1 rfl (.there (.there (.there .here))) rfl))<|ws_p1 _ (q_mv rfl)<|ws_q1 _ (iz ez10 (q_ld1 rfl (.there (.there (.there .here))) rfl))<|ws_p1 _ (q_mv rfl)<|ws_q1 _ (iz ez11 (q_ld1 rfl (.there (.there (.there .here))) rfl))<|ws_p1 _ (q_mv rfl)<|ws_q1 _ (iz ez12 (q_ld1 rfl (.there (.there (.there .here))) rfl))<|ws_p1 _ (q_mv rfl)<|ws_nil<|wc_seq<|bH h fun z14 ez14 h=>bH h fun z15 ez15 h=>bH h fun z16 ez16 h=>bH h fun z17 ez17 h=>wc_draw<|ws_p1 _ (q_ia rfl rfl (by decide))<|ws_p1 _ (q_ia rfl rfl (by decide))<|ws_p1 _ (q_ia rfl rfl (by decide))<|ws_p1 _ (q_ia rfl rfl (by decide))<|ws_q1 _ (iz ez14 (q_ld1 rfl (.there (.there (.there .here))) rfl))<|ws_p1 _ (q_mv rfl)<|ws_q1 _ (iz ez15 (q_ld1 rfl (.there (.there (.there .here))) rfl))<|ws_p1 _ (q_mv rfl)<|ws_q1 _ (iz ez16 (q_ld1 rfl (.there (.there (.there .here))) rfl))<|ws_p1 _ (q_mv rfl)<|ws_q1 _ (iz ez17 (q_ld1 rfl (.there (.there (.there .here))) rfl))<|ws_p1 _ (q_mv rfl)<|ws_nil<|wc_seq<|wc_seq<|wc_ops<|wj_q _ (q_mem (o0:=0) (off:=0) rfl (hG.g4) (by simp) rfl)<|wj_m rfl<|wj_nil<|jH h fun k133 qk133 h=>wc_mono2 (G:=fun t m=>∃ (i125:Int) (i126:Int) (i127:Int) (i128:Int) (i129:Int) (i130:Int) (i131:Int) (i132:Int),k133 i125 i126 i127 i128 i129 i130 i131 i132=some r∧Fit [(2,.pointer (some ⟨b2,0,none⟩)),(4,.pointer (some ⟨b4,0,none⟩)),(6,.int .u64 (i125)),(7,.int .u64 (i126)),(8,.int .u64 (i127)),(9,.int .u64 (i128)),(10,.int .u64 (i129)),(11,.int .u64 (i130)),(12,.int .u64 (i131)),(13,.int .u64 (i132))] (ck b7 211 [.ints .u64 80 (y6)]::(ck b4 144 [.ints .u64 8 ((List.replicate 8 0))]::(ck b3 192 [.ints .u8 128 (p1)]::(ck b2 144 [.ints .u64 8 (p0)] :: [])))) t m) ?_ ?_)))))
 ·refine wc_block<|wc_loopJ (fun n209 t m=>∃ (i199:Int) (i200:Int) (i201:Int) (i202:Int) (i203:Int) (i204:Int) (i205:Int) (i206:Int) (i207:Int),sha512_Block_l1 y6 k133 n209 i199 i200 i201 i202 i203 i204 i205 i206 i207=some r∧Fit [(2,.pointer (some ⟨b2,0,none⟩)),(4,.pointer (some ⟨b4,0,none⟩)),(5,.pointer (some ⟨b7,0,none⟩)),(6,.int .u64 (i199)),(7,.int .u64 (i200)),(8,.int .u64 (i201)),(9,.int .u64 (i202)),(10,.int .u64 (i203)),(11,.int .u64 (i204)),(12,.int .u64 (i205)),(13,.int .u64 (i206)),(38,agg [.ints .u64 80 (G_table)]),(39,.int .i64 (i207))] (ck b7 211 [.ints .u64 80 (y6)]::(ck b4 144 [.ints .u64 8 ((List.replicate 8 0))]::(ck b3 192 [.ints .u8 128 (p1)]::(ck b2 144 [.ints .u64 8 (p0)] :: [])))) t m) big ?_ ?_
  ·exact ⟨z9,z10,z11,z12,z14,z15,z16,z17,0,h,⟨⟨rfl,rfl,rfl,rfl,rfl,rfl,rfl,rfl,rfl,rfl,rfl,rfl,rfl,trivial⟩,(.one .here (.one .here (.one .here (.one .here .nil))))⟩⟩
  ·rintro n209 t m ⟨i199,i200,i201,i202,i203,i204,i205,i206,i207,h,hF⟩
   refine wc_fit hF ?_
   clear hF
   rcases n209 with _ | n209
   · exact none_i h
   have h:sha512_Block_b1 y6 k133 (sha512_Block_l1 y6 k133 n209) i199 i200 i201 i202 i203 i204 i205 i206 i207=some r:=h
   unfold sha512_Block_b1 at h
   obtain ⟨k208,qk208⟩ : ∃ k,k=sha512_Block_l1 y6 k133 n209:=⟨_,rfl⟩
   try rw [← qk208] at h
   refine wc_seq<|wc_ops<|wj_q _ (q_bin rfl rfl rfl)<|wj_nil<|wc_seq<|wc_br h rfl (fun h=>?_) (fun h=>?_)
   ·refine wc_skip<|wc_seq<|wc_block<|wc_seq<|cH h fun c213 h=>bH h fun z214 ez214 h=>wc_ops<|wj_m rfl<|wj_q _ (iz ez214 (q_idxi (len:=80) rfl rfl (inB_z c213)))<|wj_m rfl<|wj_m rfl<|wj_nil<|wc_seq<|oH h fun y216 ey216 h=>bH h fun z217 ez217 h=>bH h fun z218 ez218 h=>bH h fun z219 ez219 h=>bH h fun z220 ez220 h=>bH h fun z221 ez221 h=>bH h fun z222 ez222 h=>bH h fun z223 ez223 h=>cH h fun c224 h=>bH h fun z225 ez225 h=>bH h fun z226 ez226 h=>wc_draw<|ws_p1 _ (q_mv rfl)<|ws_p1 _ (q_mv rfl)<|ws_p1 _ (q_cl rfl (sha512_mix_spec ey216))<|ws_p1 _ (iz ez217 (q_bin rfl rfl rfl))<|ws_p1 _ (q_mv rfl)<|ws_p1 _ (q_mv rfl)<|ws_p1 _ (iz ez218 (q_bin rfl rfl rfl))<|ws_p1 _ (q_mv rfl)<|ws_p1 _ (iz ez219 (q_un rfl rfl))<|ws_p1 _ (q_mv rfl)<|ws_p1 _ (iz ez220 (q_bin rfl rfl rfl))<|ws_p1 _ (iz ez221 (q_bin rfl rfl rfl))<|ws_p1 _ (iz ez222 (q_bin rfl rfl rfl))<|ws_p1 _ (q_mv rfl)<|ws_p1 _ (iz ez223 (q_bin rfl rfl rfl))<|ws_p1 _ (q_mv rfl)<|ws_p1 _ (q_ia rfl rfl (inB_z c224))<|ws_q1 _ (iz ez225 (q_ldi (base:=0) rfl .here rfl (inB_n c224)))<|ws_p1 _ (iz ez226 (q_bin rfl rfl rfl))<|ws_p1 _ (q_mv rfl)<|ws_nil<|wc_seq<|oH h fun y228 ey228 h=>bH h fun z229 ez229 h=>bH h fun z230 ez230 h=>bH h fun z231 ez231 h=>bH h fun z232 ez232 h=>bH h fun z233 ez233 h=>bH h fun z234 ez234 h=>wc_ops<|wj_m rfl<|wj_q _ (q_cl rfl (sha512_mix_spec ey228))<|wj_m rfl<|wj_m rfl<|wj_q _ (iz ez229 (q_bin rfl rfl rfl))<|wj_m rfl<|wj_m rfl<|wj_q _ (iz ez230 (q_bin rfl rfl rfl))<|wj_q _ (iz ez231 (q_bin rfl rfl rfl))<|wj_m rfl<|wj_m rfl<|wj_q _ (iz ez232 (q_bin rfl rfl rfl))<|wj_q _ (iz ez233 (q_bin rfl rfl rfl))<|wj_q _ (iz ez234 (q_bin rfl rfl rfl))<|wj_m rfl<|wj_nil<|bH h fun z236 ez236 h=>bH h fun z237 ez237 h=>wc_ops<|wj_m rfl<|wj_m rfl<|wj_m rfl<|wj_m rfl<|wj_m rfl<|wj_q _ (iz ez236 (q_bin rfl rfl rfl))<|wj_m rfl<|wj_m rfl<|wj_m rfl<|wj_m rfl<|wj_m rfl<|wj_q _ (iz ez237 (q_bin rfl rfl rfl))<|wj_m rfl<|wj_m rfl<|wj_m rfl<|wj_m rfl<|wj_m rfl<|wj_m rfl<|wj_m rfl<|wj_m rfl<|wj_nil<|bH h fun z239 ez239 h=>wc_ops<|wj_q _ (iz ez239 (q_bin rfl rfl rfl))<|wj_m rfl<|wj_nil ?_
    rw [qk208] at h
    exact ⟨n209,Nat.lt_succ_self _,z237,i199,i200,i201,z236,i203,i204,i205,z239,h,⟨⟨rfl,rfl,rfl,rfl,rfl,rfl,rfl,rfl,rfl,rfl,rfl,rfl,rfl,trivial⟩,(.one .here (.one .here (.one .here (.one .here .nil))))⟩⟩
   ·exact wc_exit _ rfl<|⟨i199,i200,i201,i202,i203,i204,i205,i206,h,⟨⟨rfl,rfl,rfl,rfl,rfl,rfl,rfl,rfl,rfl,rfl,trivial⟩,(.one .here (.one .here (.one .here (.one .here .nil))))⟩⟩
 ·rintro t m ⟨i125,i126,i127,i128,i129,i130,i131,i132,h,hF⟩
  refine wc_fit hF ?_
  clear hF
  subst qk133
  refine wc_seq<|wc_seq<|bH h fun z241 ez241 h=>wc_ops<|wj_m rfl<|wj_m rfl<|wj_m rfl<|wj_m rfl<|wj_m rfl<|wj_m rfl<|wj_m rfl<|wj_m rfl<|wj_q _ (az (fun z=>agg [.ints .u64 8 z]) ez241 (q_bd (.one rfl rfl rfl (.one rfl rfl rfl (.one rfl rfl rfl (.one rfl rfl rfl (.one rfl rfl rfl (.one rfl rfl rfl (.one rfl rfl rfl (.one rfl rfl rfl BdR.nil))))))))))<|wj_m rfl<|wj_nil<|jH h fun k283 qk283 h=>wc_mono2 (G:=fun t m=>∃ (a282:List Int),k283 a282=some r∧Fit [(2,.pointer (some ⟨b2,0,none⟩)),(4,.pointer (some ⟨b4,0,none⟩))] (ck b7 211 [.ints .u64 80 (y6)]::(ck b4 144 [.ints .u64 8 ((List.replicate 8 0))]::(ck b3 192 [.ints .u8 128 (p1)]::(ck b2 144 [.ints .u64 8 (a282)] :: [])))) t m) ?_ ?_
  ·refine wc_block<|wc_loopJ (fun n310 t m=>∃ (i307:Int) (a308:List Int),sha512_Block_l2 z241 k283 n310 i307 a308=some r∧Fit [(2,.pointer (some ⟨b2,0,none⟩)),(4,.pointer (some ⟨b4,0,none⟩)),(97,agg [.ints .u64 8 (z241)]),(98,.int .i64 (i307))] (ck b7 211 [.ints .u64 80 (y6)]::(ck b4 144 [.ints .u64 8 ((List.replicate 8 0))]::(ck b3 192 [.ints .u8 128 (p1)]::(ck b2 144 [.ints .u64 8 (a308)] :: [])))) t m) big ?_ ?_
   ·exact ⟨0,p0,h,⟨⟨rfl,rfl,rfl,rfl,trivial⟩,(.one .here (.one .here (.one .here (.one .here .nil))))⟩⟩
   ·rintro n310 t m ⟨i307,a308,h,hF⟩
    refine wc_fit hF ?_
    clear hF
    rcases n310 with _ | n310
    · exact none_i h
    have h:sha512_Block_b2 z241 k283 (sha512_Block_l2 z241 k283 n310) i307 a308=some r:=h
    unfold sha512_Block_b2 at h
    obtain ⟨k309,qk309⟩ : ∃ k,k=sha512_Block_l2 z241 k283 n310:=⟨_,rfl⟩
    try rw [← qk309] at h
    refine wc_seq<|wc_ops<|wj_q _ (q_bin rfl rfl rfl)<|wj_nil<|wc_seq<|wc_br h rfl (fun h=>?_) (fun h=>?_)
    ·refine wc_skip<|wc_seq<|wc_block<|wc_seq<|cH h fun c314 h=>bH h fun z315 ez315 h=>wc_ops<|wj_m rfl<|wj_q _ (iz ez315 (q_idxi (len:=8) rfl rfl (inB_z c314)))<|wj_m rfl<|wj_m rfl<|wj_nil<|cH h fun c317 h=>bH h fun z318 ez318 h=>bH h fun z319 ez319 h=>cH h fun c320 h=>bH h fun l321 el321 h=>wc_ops<|wj_m rfl<|wj_q _ (q_ia rfl rfl (inB_z c317))<|wj_q _ (iz ez318 (q_ldi (base:=0) rfl (.there (.there (.there .here))) rfl (inB_n c317)))<|wj_m rfl<|wj_q _ (iz ez319 (q_bin rfl rfl rfl))<|wj_q _ (q_ia rfl rfl (inB_z c320))<|wj_e (ef_stiz (q:=[.ints .u64 8 (l321)]) (base:=0) el321 rfl rfl rfl (inB_n c320) rfl (.there (.there (.there .here)))<|wj_nil<|bH h fun z323 ez323 h=>wc_ops<|wj_q _ (iz ez323 (q_bin rfl rfl rfl))<|wj_m rfl<|wj_nil ?_)
     rw [qk309] at h
     exact ⟨n310,Nat.lt_succ_self _,z323,l321,h,⟨⟨rfl,rfl,rfl,rfl,trivial⟩,(.one .here (.one .here (.one .here (.one .here .nil))))⟩⟩
    ·exact wc_exit _ rfl<|⟨a308,h,⟨⟨rfl,rfl,trivial⟩,(.one .here (.one .here (.one .here (.one .here .nil))))⟩⟩
  ·rintro t m ⟨a282,h,hF⟩
   refine wc_fit hF ?_
   clear hF
   subst qk283
   refine wc_seq<|wc_ops<|wj_q _ (q_ld (p:=[.ints .u64 8 (a282)]) rfl (.there (.there (.there .here))) rfl)<|wj_e (ef_st (q:=[.ints .u64 8 (a282)]) rfl rfl rfl rfl rfl (.there .here)<|wj_nil<|wc_ret ?_)
   revert h; refine ret_i fun h=>?_
   subst h
   exact ⟨_,(.cons (.agg rfl (.there .here) rfl) .nil),rfl⟩
end Go.Proofs.YtiflckckekjbnaaGreatDoor
