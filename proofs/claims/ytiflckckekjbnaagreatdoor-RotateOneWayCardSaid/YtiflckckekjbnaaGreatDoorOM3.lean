/- Texts of a proof, one behind the other: S1 E23 SB L1 L2 L3. -/
import Derived.Test.YtiflckckekjbnaaGreatDoorOM2
import Derived.Test.YtiflckckekjbnaaGreatDoorProg
namespace Go.Proofs.YtiflckckekjbnaaGreatDoor
open Go Go.Sx Go.RowKit
set_option linter.all false
set_option maxHeartbeats 400000
set_option maxRecDepth 100000
def Z0kr:List J:=[oj 0 (.mv (.const (.pointer none)))]
def Z0ks:List J:=[oj 1 (.ld 8 true (.global 2)),oj 2 (.bd [.ints .u64 8 (List.replicate 8 0),.ints .u8 128 (List.replicate 128 0),.one (.int .i64 0),.one (.int .u64 0)] [(0,8,1)]),oj 3 (.bx 194 2),oj 0 (.mv 3)]
def d96:FnD:=⟨4,[.tmp 0],(.seq (.ops Z0kr) (.seq (.ops Z0ks) .ret))⟩
theorem ok96:okF Tryz.prog 96 d96=true:=by kernel_rfl
def Z06k:List J:=[oj 0 (.mv (ci 0))]
def Z06l:List J:=[oj 1 (.mv (ci 0))]
def Z06m:List J:=[oj 3 (.conv .u64 (ci 0)),oj 4 (.un .xor 3),oj 2 (.mv 4)]
def Z06n:List J:=[oj 5 (.mv 2),oj 6 (.bin .neq 5 (cu 0))]
def Z06p:List J:=[oj 9 (.mv 1),oj 10 (.bin .add 9 (ci 1)),oj 1 (.mv 10)]
def Zy6:IC:=(.ops Z06p)
def Z06o:List J:=[oj 7 (.mv 2),oj 8 (.bin .shr 7 (cu 1)),oj 2 (.mv 8)]
def Zz6:IC:=(.seq (.seq (.ops Z06n) (.cond 6 .skip (.exit 0))) (.seq (.block 1 Zy6) (.ops Z06o)))
def Zy5:IC:=(.loop Zz6)
def Z06q:List J:=[oj 11 (.mv 1),oj 0 (.mv 11)]
def d183:FnD:=⟨12,[.tmp 0],(.seq (.ops Z06k) (.seq (.ops Z06l) (.seq (.seq (.ops Z06m) (.block 0 Zy5)) (.seq (.ops Z06q) .ret))))⟩
theorem Z0e4:okF Tryz.prog 183 d183=true:=by kernel_rfl
def Z07w:List J:=[oj 4 (.mv (.const (.slice none 0 0)))]
def Z07x:List J:=[oj 6 (.call 183 []),oj 7 (.bin .quo 6 (ci 8)),oj 5 (.mv 7)]
def Z07y:List J:=[oj 8 (.mv 1),oj 9 (.bin .lss 8 (ci 0)),oj 10 (.mv 9),.lg true 10 17 none [.op ⟨some 11,(some (10,false)),.mv 1⟩,.op ⟨some 12,(some (10,false)),.mv 0⟩,.op ⟨some 13,(some (10,false)),.len 12⟩,.op ⟨some 14,(some (10,false)),.mv 5⟩,.op ⟨some 15,(some (10,false)),.bin .sub 13 14⟩,.op ⟨some 16,(some (10,false)),.bin .gtr 11 15⟩] 16]
def Z07z:List J:=[oj 4 (.mv (.const (.slice none 0 0)))]
def Z080:List J:=[oj 18 (.mv 0),oj 19 (.mv 1),oj 20 (.mv 1),oj 21 (.mv 5),oj 22 (.bin .add 20 21),oj 23 (.sls 1 18 (some 19) (some 22) none),oj 4 (.mv 23)]
def d203:FnD:=⟨24,[.tmp 4],(.seq (.ops Z07w) (.seq (.ops Z07x) (.seq (.seq (.ops Z07y) (.cond 17 (.seq (.ops Z07z) .ret) .skip)) (.seq (.ops Z080) .ret))))⟩
theorem Z0ee:okF Tryz.prog 203 d203=true:=by kernel_rfl
def Z08m:List J:=[oj 4 (.mv (cu 0)),oj 5 (.mv (.const (.bool false)))]
def Z08n:List J:=[oj 6 (.mv (cu 0))]
def Z08o:List J:=[oj 10 (.mv 0),oj 11 (.mv 1),oj 12 (.call 203 [10,11]),oj 7 (.mv 12)]
def Z08p:List J:=[oj 13 (.mv 7),oj 14 (.len 13),oj 15 (.mv (ci 0))]
def Z08q:List J:=[oj 16 (.bin .lss 15 14)]
def Z08r:List J:=[oj 17 (.ias 1 13 15),oj 18 (.ld 1 false 17),oj 9 (.mv 18)]
def Z08s:List J:=[oj 19 (.mv 6),oj 20 (.bin .shl 19 (cu 8)),oj 21 (.mv 9),oj 22 (.conv .u64 21),oj 23 (.bin .or 20 22),oj 6 (.mv 23)]
def Zyg:IC:=(.seq (.ops Z08r) (.ops Z08s))
def Z08t:List J:=[oj 24 (.bin .add 15 (ci 1)),oj 15 (.mv 24)]
def Zzb:IC:=(.seq (.ops Z08q) (.seq (.cond 16 .skip (.exit 0)) (.seq (.block 1 Zyg) (.ops Z08t))))
def Zyf:IC:=(.loop Zzb)
def Z08u:List J:=[oj 25 (.mv 6),oj 26 (.mv 7),oj 27 (.isn true 26),oj 4 (.mv 25),oj 5 (.mv 27)]
def d218:FnD:=⟨28,[.tmp 4,.tmp 5],(.seq (.ops Z08m) (.seq (.ops Z08n) (.seq (.ops Z08o) (.seq (.seq (.ops Z08p) (.block 0 Zyf)) (.seq (.ops Z08u) .ret)))))⟩
theorem Z0ei:okF Tryz.prog 218 d218=true:=by kernel_rfl
def Z08x:List J:=[oj 4 (.mv (cu 0))]
def Z08y:List J:=[oj 7 (.call 183 []),oj 5 (.mv 7)]
def Z08z:List J:=[oj 8 (.mv 1),oj 9 (.conv .u64 8),oj 10 (.mv 5),oj 11 (.bin .sub 10 (ci 1)),oj 12 (.conv .u64 11),oj 13 (.bin .and 9 12),oj 6 (.mv 13)]
def Z090:List J:=[oj 14 (.mv 0),oj 15 (.mv 6),oj 16 (.bin .shr 14 15),oj 17 (.mv 0),oj 18 (.mv 5),oj 19 (.conv .u64 18),oj 20 (.mv 6),oj 21 (.bin .sub 19 20),oj 22 (.bin .shl 17 21),oj 23 (.bin .or 16 22),oj 4 (.mv 23)]
def d220:FnD:=⟨24,[.tmp 4],(.seq (.ops Z08x) (.seq (.ops Z08y) (.seq (.ops Z08z) (.seq (.ops Z090) .ret))))⟩
theorem Z0ek:okF Tryz.prog 220 d220=true:=by kernel_rfl
def Z08v:List J:=[oj 8 (.mv (cu 0))]
def Z08w:Sch:=(.p [0] (oj 9 (.mv 0)) (.p [1] (oj 10 (.mv 1)) (.p [2] (oj 11 (.call 220 [9,10])) (.p [3] (oj 12 (.mv 0)) (.p [4] (oj 13 (.mv 2)) (.p [5] (oj 14 (.call 220 [12,13])) (.p [6] (oj 15 (.bin .xor 11 14)) (.p [7] (oj 16 (.mv 0)) (.p [8] (oj 17 (.mv 3)) (.p [9] (oj 18 (.bin .shr 16 17)) (.p [10] (oj 19 (.bin .xor 15 18)) (.p [11] (oj 8 (.mv 19)) .nil))))))))))))
def d219:FnD:=⟨20,[.tmp 8],(.seq (.ops Z08v) (.seq (.draw Z08w []) .ret))⟩
theorem Z0ej:okF Tryz.prog 219 d219=true:=by kernel_rfl
def Z07k:List J:=[oj 1 (.bx 192 0),oj 2 (.al 211 [.ints .u64 80 (List.replicate 80 0)])]
def Z07l:List J:=[oj 3 (.al 211 [.ints .u64 80 (List.replicate 80 0)])]
def Z07m:List J:=[oj 5 (.mv (ci 0))]
def Z07n:List J:=[oj 6 (.bin .lss 5 (ci 80))]
def Z07o:List J:=[oj 7 (.mv 5),oj 4 (.mv 7)]
def Z07p:List J:=[oj 8 (.mv 4),oj 9 (.bin .lss 8 (ci 16))]
def Z07q:List J:=[oj 11 (.mv 4),oj 12 (.sla 128 1 1 none none none),oj 13 (.mv 4),oj 14 (.bin .mul (ci 8) 13),oj 15 (.call 218 [12,14]),oj 10 (.mv 15),oj 16 (.ext 10 0),oj 17 (.ext 10 1),oj 18 (.ia 80 1 3 11),on_ (.st 1 18 16)]
def Z07r:Sch:=(.p [0] (oj 19 (.mv 4)) (.p [1] (oj 20 (.mv 4)) (.p [2] (oj 21 (.bin .sub 20 (ci 2))) (.p [3] (oj 22 (.ia 80 1 3 21)) (.p [6] (oj 25 (.mv 4)) (.p [7] (oj 26 (.bin .sub 25 (ci 7))) (.p [8] (oj 27 (.ia 80 1 3 26)) (.p [11] (oj 30 (.mv 4)) (.p [12] (oj 31 (.bin .sub 30 (ci 15))) (.p [13] (oj 32 (.ia 80 1 3 31)) (.p [17] (oj 36 (.mv 4)) (.p [18] (oj 37 (.bin .sub 36 (ci 16))) (.p [19] (oj 38 (.ia 80 1 3 37)) (.q [4] (oj 23 (.ld 1 false 22)) (.p [5] (oj 24 (.call 219 [23,(ci 19),(ci 61),(ci 6)])) (.q [9] (oj 28 (.ld 1 false 27)) (.p [10] (oj 29 (.bin .add 24 28)) (.q [14] (oj 33 (.ld 1 false 32)) (.p [15] (oj 34 (.call 219 [33,(ci 1),(ci 8),(ci 7)])) (.p [16] (oj 35 (.bin .add 29 34)) (.q [20] (oj 39 (.ld 1 false 38)) (.p [21] (oj 40 (.bin .add 35 39)) (.p [22] (oj 41 (.ia 80 1 3 19)) (.e 23 (oe (.st 1 41 40)) .nil))))))))))))))))))))))))
def Zya:IC:=(.seq (.ops Z07o) (.seq (.seq (.ops Z07p) (.cond 9 (.seq (.ops Z07q) (.exit 1)) .skip)) (.draw Z07r [23])))
def Z07s:List J:=[oj 42 (.bin .add 5 (ci 1)),oj 5 (.mv 42)]
def Zz8:IC:=(.seq (.ops Z07n) (.seq (.cond 6 .skip (.exit 0)) (.seq (.block 1 Zya) (.ops Z07s))))
def Zy9:IC:=(.loop Zz8)
def Z07t:List J:=[oj 43 (.ld 80 true 3),on_ (.st 80 2 43)]
def d201:FnD:=⟨44,[.cell 2 80 true],(.seq (.ops Z07k) (.seq (.ops Z07l) (.seq (.seq (.ops Z07m) (.block 0 Zy9)) (.seq (.ops Z07t) .ret))))⟩
theorem Z0ec:okF Tryz.prog 201 d201=true:=by kernel_rfl
def Z07u:List J:=[oj 8 (.mv (cu 0))]
def Z07v:List J:=[oj 9 (.mv 0),oj 10 (.mv 1),oj 11 (.call 220 [9,10]),oj 12 (.mv 0),oj 13 (.mv 2),oj 14 (.call 220 [12,13]),oj 15 (.bin .xor 11 14),oj 16 (.mv 0),oj 17 (.mv 3),oj 18 (.call 220 [16,17]),oj 19 (.bin .xor 15 18),oj 8 (.mv 19)]
def d202:FnD:=⟨20,[.tmp 8],(.seq (.ops Z07u) (.seq (.ops Z07v) .ret))⟩
theorem Z0ed:okF Tryz.prog 202 d202=true:=by kernel_rfl
def Z04e:List J:=[oj 2 (.bx 144 0),oj 3 (.bx 192 1),oj 4 (.al 144 [.ints .u64 8 (List.replicate 8 0)])]
def Z04f:List J:=[oj 20 (.ld 128 true 3),oj 21 (.call 201 [20]),oj 5 (.al 211 [.ints .u64 80 (List.replicate 80 0)]),on_ (.st 80 5 21)]
def Z04g:Sch:=(.p [0] (oj 22 (.ia 8 1 2 (ci 0))) (.p [2] (oj 24 (.ia 8 1 2 (ci 1))) (.p [4] (oj 26 (.ia 8 1 2 (ci 2))) (.p [6] (oj 28 (.ia 8 1 2 (ci 3))) (.q [1] (oj 23 (.ld 1 false 22)) (.p [8] (oj 6 (.mv 23)) (.q [3] (oj 25 (.ld 1 false 24)) (.p [9] (oj 7 (.mv 25)) (.q [5] (oj 27 (.ld 1 false 26)) (.p [10] (oj 8 (.mv 27)) (.q [7] (oj 29 (.ld 1 false 28)) (.p [11] (oj 9 (.mv 29)) .nil))))))))))))
def Z04h:Sch:=(.p [0] (oj 30 (.ia 8 1 2 (ci 4))) (.p [2] (oj 32 (.ia 8 1 2 (ci 5))) (.p [4] (oj 34 (.ia 8 1 2 (ci 6))) (.p [6] (oj 36 (.ia 8 1 2 (ci 7))) (.q [1] (oj 31 (.ld 1 false 30)) (.p [8] (oj 10 (.mv 31)) (.q [3] (oj 33 (.ld 1 false 32)) (.p [9] (oj 11 (.mv 33)) (.q [5] (oj 35 (.ld 1 false 34)) (.p [10] (oj 12 (.mv 35)) (.q [7] (oj 37 (.ld 1 false 36)) (.p [11] (oj 13 (.mv 37)) .nil))))))))))))
def Z04i:List J:=[oj 38 (.ld 80 true (.global 4)),oj 39 (.mv (ci 0))]
def Z04j:List J:=[oj 40 (.bin .lss 39 (ci 80))]
def Z04k:List J:=[oj 41 (.mv 39),oj 42 (.idx 80 1 false 38 39),oj 14 (.mv 41),oj 15 (.mv 42)]
def Z04l:Sch:=(.p [0] (oj 43 (.mv 13)) (.p [1] (oj 44 (.mv 10)) (.p [2] (oj 45 (.call 202 [44,(ci 14),(ci 18),(ci 41)])) (.p [3] (oj 46 (.bin .add 43 45)) (.p [4] (oj 47 (.mv 10)) (.p [5] (oj 48 (.mv 11)) (.p [6] (oj 49 (.bin .and 47 48)) (.p [7] (oj 50 (.mv 10)) (.p [8] (oj 51 (.un .xor 50)) (.p [9] (oj 52 (.mv 12)) (.p [10] (oj 53 (.bin .and 51 52)) (.p [11] (oj 54 (.bin .xor 49 53)) (.p [12] (oj 55 (.bin .add 46 54)) (.p [13] (oj 56 (.mv 15)) (.p [14] (oj 57 (.bin .add 55 56)) (.p [15] (oj 58 (.mv 14)) (.p [16] (oj 59 (.ia 80 1 5 58)) (.q [17] (oj 60 (.ld 1 false 59)) (.p [18] (oj 61 (.bin .add 57 60)) (.p [19] (oj 16 (.mv 61)) .nil))))))))))))))))))))
def Z04m:List J:=[oj 62 (.mv 6),oj 63 (.call 202 [62,(ci 28),(ci 34),(ci 39)]),oj 64 (.mv 6),oj 65 (.mv 7),oj 66 (.bin .and 64 65),oj 67 (.mv 6),oj 68 (.mv 8),oj 69 (.bin .and 67 68),oj 70 (.bin .xor 66 69),oj 71 (.mv 7),oj 72 (.mv 8),oj 73 (.bin .and 71 72),oj 74 (.bin .xor 70 73),oj 75 (.bin .add 63 74),oj 17 (.mv 75)]
def Z04n:List J:=[oj 76 (.mv 12),oj 77 (.mv 11),oj 78 (.mv 10),oj 79 (.mv 9),oj 80 (.mv 16),oj 81 (.bin .add 79 80),oj 82 (.mv 8),oj 83 (.mv 7),oj 84 (.mv 6),oj 85 (.mv 16),oj 86 (.mv 17),oj 87 (.bin .add 85 86),oj 13 (.mv 76),oj 12 (.mv 77),oj 11 (.mv 78),oj 10 (.mv 81),oj 9 (.mv 82),oj 8 (.mv 83),oj 7 (.mv 84),oj 6 (.mv 87)]
def Zxm:IC:=(.seq (.ops Z04k) (.seq (.draw Z04l []) (.seq (.ops Z04m) (.ops Z04n))))
def Zul:List J:=[oj 88 (.bin .add 39 (ci 1)),oj 39 (.mv 88)]
def Zyw:IC:=(.seq (.ops Z04j) (.seq (.cond 40 .skip (.exit 0)) (.seq (.block 1 Zxm) (.ops Zul))))
def Zxl:IC:=(.loop Zyw)
def Zum:List J:=[oj 89 (.mv 6),oj 90 (.mv 7),oj 91 (.mv 8),oj 92 (.mv 9),oj 93 (.mv 10),oj 94 (.mv 11),oj 95 (.mv 12),oj 96 (.mv 13),oj 97 (.bd [.ints .u64 8 (List.replicate 8 0)] [(0,1,89),(1,1,90),(2,1,91),(3,1,92),(4,1,93),(5,1,94),(6,1,95),(7,1,96)]),oj 98 (.mv (ci 0))]
def Zun:List J:=[oj 99 (.bin .lss 98 (ci 8))]
def Zuo:List J:=[oj 100 (.mv 98),oj 101 (.idx 8 1 false 97 98),oj 18 (.mv 100),oj 19 (.mv 101)]
def Zup:List J:=[oj 102 (.mv 18),oj 103 (.ia 8 1 2 102),oj 104 (.ld 1 false 103),oj 105 (.mv 19),oj 106 (.bin .add 104 105),oj 107 (.ia 8 1 2 102),on_ (.st 1 107 106)]
def Zxo:IC:=(.seq (.ops Zuo) (.ops Zup))
def Zuq:List J:=[oj 108 (.bin .add 98 (ci 1)),oj 98 (.mv 108)]
def Zyx:IC:=(.seq (.ops Zun) (.seq (.cond 99 .skip (.exit 2)) (.seq (.block 3 Zxo) (.ops Zuq))))
def Zxn:IC:=(.loop Zyx)
def Zur:List J:=[oj 109 (.ld 8 true 2),on_ (.st 8 4 109)]
def d159:FnD:=⟨110,[.cell 4 8 true],(.seq (.ops Z04e) (.seq (.ops Z04f) (.seq (.draw Z04g []) (.seq (.draw Z04h []) (.seq (.seq (.ops Z04i) (.block 0 Zxl)) (.seq (.seq (.ops Zum) (.block 2 Zxn)) (.seq (.ops Zur) .ret)))))))⟩
theorem Z0dt:okF Tryz.prog 159 d159=true:=by kernel_rfl
def Z0kt:List J:=[oj 5 (.mv 0),oj 6 (.nilc 5),oj 7 (.fa 137 6),oj 8 (.ld 1 false 7),oj 9 (.mv 1),oj 10 (.len 9),oj 11 (.conv .u64 10),oj 12 (.bin .add 8 11),oj 13 (.nilc 5),oj 14 (.fa 137 13),on_ (.st 1 14 12)]
def Z0ku:List J:=[oj 15 (.mv 1),oj 16 (.len 15),oj 17 (.bin .gtr 16 (ci 0))]
def Z0kv:Sch:=(.p [0] (oj 18 (.mv 0)) (.p [1] (oj 19 (.nilc 18)) (.p [2] (oj 20 (.fa 8 19)) (.p [3] (oj 21 (.mv 0)) (.p [4] (oj 22 (.nilc 21)) (.p [5] (oj 23 (.fa 136 22)) (.p [8] (oj 26 (.mv 1)) (.q [6] (oj 24 (.ld 1 false 23)) (.p [7] (oj 25 (.sla 128 1 20 (some 24) none none)) (.e 9 (oi 27 (.cpy 1 25 26)) (.p [10] (oj 4 (.mv 27)) .nil)))))))))))
def Z0kw:List J:=[oj 28 (.mv 1),oj 29 (.mv 4),oj 30 (.sls 1 28 (some 29) none none),oj 1 (.mv 30)]
def Z0kx:List J:=[oj 31 (.mv 0),oj 32 (.nilc 31),oj 33 (.fa 136 32),oj 34 (.ld 1 false 33),oj 35 (.mv 4),oj 36 (.bin .add 34 35),oj 37 (.nilc 31),oj 38 (.fa 136 37),on_ (.st 1 38 36)]
def Z0ky:List J:=[oj 39 (.mv 0),oj 40 (.nilc 39),oj 41 (.fa 136 40),oj 42 (.ld 1 false 41),oj 43 (.bin .eql 42 (ci 128))]
def Z0kz:Sch:=(.p [0] (oj 44 (.mv 0)) (.p [1] (oj 45 (.mv 0)) (.p [2] (oj 46 (.nilc 45)) (.p [3] (oj 47 (.fa 0 46)) (.p [5] (oj 49 (.mv 0)) (.p [6] (oj 50 (.nilc 49)) (.p [7] (oj 51 (.fa 8 50)) (.q [4] (oj 48 (.ld 8 true 47)) (.q [8] (oj 52 (.ld 128 true 51)) (.p [9] (oj 53 (.call 159 [48,52])) (.p [10] (oj 54 (.nilc 44)) (.p [11] (oj 55 (.fa 0 54)) (.e 12 (oe (.st 8 55 53)) .nil)))))))))))))
def Z0l0:List J:=[oj 56 (.mv 0),oj 57 (.nilc 56),oj 58 (.fa 136 57),on_ (.st 1 58 (ci 0))]
def Z0cb:IC:=(.seq (.draw Z0kv [9]) (.seq (.ops Z0kw) (.seq (.ops Z0kx) (.seq (.ops Z0ky) (.cond 43 (.seq (.draw Z0kz [12]) (.ops Z0l0)) .skip)))))
def Z0cu:IC:=(.seq (.seq (.ops Z0ku) (.cond 17 .skip (.exit 0))) (.block 1 Z0cb))
def Z0ca:IC:=(.loop Z0cu)
def d97:FnD:=⟨59,[],(.seq (.ops Z0kt) (.block 0 Z0ca))⟩
theorem ok97:okF Tryz.prog 97 d97=true:=by kernel_rfl
def Zzx:List J:=[oj 2 (.mv (.const (.slice none 0 0)))]
def Zzy:List J:=[oj 5 (.call 183 []),oj 6 (.bin .quo 5 (ci 8)),oj 7 (.mks 5 1 [.one (.int .u8 0)] 6 6),oj 3 (.mv 7)]
def Zzz:List J:=[oj 8 (.mv 3),oj 9 (.len 8),oj 10 (.bin .sub 9 (ci 1)),oj 4 (.mv 10)]
def Z000:List J:=[oj 11 (.mv 4),oj 12 (.bin .geq 11 (ci 0))]
def Z002:List J:=[oj 15 (.mv 3),oj 16 (.mv 4),oj 17 (.mv 0),oj 18 (.conv .u8 17),oj 19 (.ias 1 15 16),on_ (.st 1 19 18)]
def Z003:List J:=[oj 20 (.mv 0),oj 21 (.bin .shr 20 (cu 8)),oj 0 (.mv 21)]
def Zwt:IC:=(.seq (.ops Z002) (.ops Z003))
def Z001:List J:=[oj 13 (.mv 4),oj 14 (.bin .sub 13 (ci 1)),oj 4 (.mv 14)]
def Zyi:IC:=(.seq (.seq (.ops Z000) (.cond 12 .skip (.exit 0))) (.seq (.block 1 Zwt) (.ops Z001)))
def Zws:IC:=(.loop Zyi)
def Z004:List J:=[oj 22 (.mv 3),oj 2 (.mv 22)]
def d118:FnD:=⟨23,[.tmp 2],(.seq (.ops Zzx) (.seq (.ops Zzy) (.seq (.seq (.ops Zzz) (.block 0 Zws)) (.seq (.ops Z004) .ret))))⟩
theorem Z0d2:okF Tryz.prog 118 d118=true:=by kernel_rfl
def Z05f:List J:=[oj 2 (.mv (.const (.pointer none)))]
def Z05g:List J:=[oj 4 (.mv 0),oj 5 (.nilc 4),oj 6 (.ld 138 true 5),oj 3 (.al 194 [.ints .u64 8 (List.replicate 8 0),.ints .u8 128 (List.replicate 128 0),.one (.int .i64 0),.one (.int .u64 0)]),on_ (.st 138 3 6)]
def Z05h:List J:=[oj 2 (.mv 3)]
def d163:FnD:=⟨7,[.tmp 2],(.seq (.ops Z05f) (.seq (.ops Z05g) (.seq (.ops Z05h) .ret)))⟩
theorem Z0dx:okF Tryz.prog 163 d163=true:=by kernel_rfl
def Z05i:List J:=[oj 2 (.mv (.const (.slice none 0 0)))]
def Z05j:List J:=[oj 5 (.mv 0),oj 6 (.bin .add 5 (cu 17)),oj 7 (.bin .rem 6 (cu 128)),oj 8 (.conv .i64 7),oj 9 (.bin .sub (ci 128) 8),oj 10 (.bin .rem 9 (ci 128)),oj 3 (.mv 10)]
def Z05k:List J:=[oj 11 (.mv 3),oj 12 (.bin .add (ci 17) 11),oj 13 (.mks 5 1 [.one (.int .u8 0)] (ci 0) 12),oj 4 (.mv 13)]
def Z05l:List J:=[oj 14 (.mv 4),oj 15 (.bs 5 1 1 [.one (.int .u8 0)] [(0,1,(.const (.int .u8 128)))]),oj 16 (.app 5 1 1 [.one (.int .u8 0)] 14 15),oj 4 (.mv 16)]
def Z05m:List J:=[oj 17 (.mv 4),oj 18 (.mv 3),oj 19 (.apz 5 1 1 [.one (.int .u8 0)] 17 18),oj 4 (.mv 19)]
def Z05n:List J:=[oj 20 (.mv 4),oj 21 (.mv 0),oj 22 (.bin .shr 21 (cu 61)),oj 23 (.call 118 [22]),oj 24 (.app 5 1 1 [.one (.int .u8 0)] 20 23),oj 4 (.mv 24)]
def Z05o:List J:=[oj 25 (.mv 4),oj 26 (.mv 0),oj 27 (.bin .shl 26 (cu 3)),oj 28 (.call 118 [27]),oj 29 (.app 5 1 1 [.one (.int .u8 0)] 25 28),oj 2 (.mv 29)]
def d164:FnD:=⟨30,[.tmp 2],(.seq (.ops Z05i) (.seq (.ops Z05j) (.seq (.ops Z05k) (.seq (.ops Z05l) (.seq (.ops Z05m) (.seq (.ops Z05n) (.seq (.ops Z05o) .ret)))))))⟩
theorem Z0dy:okF Tryz.prog 164 d164=true:=by kernel_rfl
def Z0l9:List J:=[oj 2 (.al 94 [.ints .u8 64 (List.replicate 64 0)])]
def Z0la:List J:=[oj 7 (.mv 0),oj 8 (.call 163 [7]),oj 3 (.mv 8)]
def Z0lb:List J:=[oj 9 (.mv 3),oj 10 (.mv 0),oj 11 (.nilc 10),oj 12 (.fa 137 11),oj 13 (.ld 1 false 12),oj 14 (.call 164 [13]),oj 15 (.call 97 [9,14])]
def Z0lc:List J:=[oj 4 (.al 94 [.ints .u8 64 (List.replicate 64 0)])]
def Z0ld:List J:=[oj 16 (.mv 3),oj 17 (.nilc 16),oj 18 (.fa 0 17),oj 19 (.ld 8 true 18),oj 20 (.mv (ci 0))]
def Z0le:List J:=[oj 21 (.bin .lss 20 (ci 8))]
def Z0lf:List J:=[oj 22 (.mv 20),oj 23 (.idx 8 1 false 19 20),oj 5 (.mv 22),oj 6 (.mv 23)]
def Z0lg:Sch:=(.p [0] (oj 24 (.mv 5)) (.p [1] (oj 25 (.bin .mul (ci 8) 24)) (.p [2] (oj 26 (.sla 64 1 4 (some 25) none none)) (.p [3] (oj 27 (.mv 6)) (.e 4 (oi 28 (.call 118 [27])) (.e 5 (oi 29 (.cpy 1 26 28)) .nil))))))
def Z0cf:IC:=(.seq (.ops Z0lf) (.draw Z0lg [5]))
def Z0lh:List J:=[oj 30 (.bin .add 20 (ci 1)),oj 20 (.mv 30)]
def Z0cw:IC:=(.seq (.ops Z0le) (.seq (.cond 21 .skip (.exit 0)) (.seq (.block 1 Z0cf) (.ops Z0lh))))
def Z0ce:IC:=(.loop Z0cw)
def Z0li:List J:=[oj 31 (.ld 64 true 4),on_ (.st 64 2 31)]
def d99:FnD:=⟨32,[.cell 2 64 true],(.seq (.ops Z0l9) (.seq (.ops Z0la) (.seq (.ops Z0lb) (.seq (.ops Z0lc) (.seq (.seq (.ops Z0ld) (.block 0 Z0ce)) (.seq (.ops Z0li) .ret))))))⟩
theorem ok99:okF Tryz.prog 99 d99=true:=by kernel_rfl
def Z0jb:List J:=[oj 2 (.al 94 [.ints .u8 64 (List.replicate 64 0)])]
def Z0jc:List J:=[oj 4 (.call 96 []),oj 3 (.mv 4)]
def Z0jd:List J:=[oj 5 (.mv 3),oj 6 (.mv 0),oj 7 (.call 97 [5,6])]
def Z0je:List J:=[oj 8 (.mv 3),oj 9 (.call 99 [8]),on_ (.st 64 2 9)]
def d88:FnD:=⟨10,[.cell 2 64 true],(.seq (.ops Z0jb) (.seq (.ops Z0jc) (.seq (.ops Z0jd) (.seq (.ops Z0je) .ret))))⟩
theorem ok88:okF Tryz.prog 88 d88=true:=by kernel_rfl
def Z0jf:List J:=[oj 1 (.bx 22 0),oj 2 (.al 74 [.ints .u8 32 (List.replicate 32 0)])]
def Z0jg:List J:=[oj 3 (.ia 32 1 1 (ci 0)),oj 4 (.ld 1 false 3),oj 5 (.bin .andNot 4 (.const (.int .u8 7))),oj 6 (.ia 32 1 1 (ci 0)),on_ (.st 1 6 5)]
def Z0jh:List J:=[oj 7 (.ia 32 1 1 (ci 31)),oj 8 (.ld 1 false 7),oj 9 (.bin .and 8 (.const (.int .u8 127))),oj 10 (.bin .or 9 (.const (.int .u8 64))),oj 11 (.ia 32 1 1 (ci 31)),on_ (.st 1 11 10)]
def Z0ji:List J:=[oj 12 (.ld 32 true 1),on_ (.st 32 2 12)]
def d89:FnD:=⟨13,[.cell 2 32 true],(.seq (.ops Z0jf) (.seq (.ops Z0jg) (.seq (.ops Z0jh) (.seq (.ops Z0ji) .ret))))⟩
theorem ok89:okF Tryz.prog 89 d89=true:=by kernel_rfl
def Z0h9:List J:=[oj 1 (.bx 23 0),oj 2 (.al 74 [.ints .u8 32 (List.replicate 32 0)]),oj 3 (.mv (.const (.slice none 0 0)))]
def Z0ha:List J:=[oj 5 (.sla 32 1 1 none none none),oj 6 (.call 88 [5]),oj 4 (.al 94 [.ints .u8 64 (List.replicate 64 0)]),on_ (.st 64 4 6)]
def Z0hb:Sch:=(.p [0] (oj 7 (.sla 64 1 4 none (some (ci 32)) none)) (.p [1] (oj 8 (.s2a 32 7)) (.p [4] (oj 11 (.sla 64 1 4 (some (ci 32)) none none)) (.q [2] (oj 9 (.ld 32 true 8)) (.p [3] (oj 10 (.call 89 [9])) (.e 5 (oe (.st 32 2 10)) (.p [6] (oj 3 (.mv 11)) .nil)))))))
def d49:FnD:=⟨12,[.cell 2 32 true,.tmp 3],(.seq (.ops Z0h9) (.seq (.ops Z0ha) (.seq (.draw Z0hb [5]) .ret)))⟩
theorem ok49:okF Tryz.prog 49 d49=true:=by kernel_rfl
def Z048:List J:=[oj 1 (.bx 80 0),oj 2 (.al 80 [Z5])]
def Z049:List J:=[oj 3 (.ia 5 1 1 (ci 0)),oj 4 (.ld 1 false 3),oj 5 (.bin .and 4 (cu 2251799813685247)),oj 6 (.ia 5 1 1 (ci 4)),oj 7 (.ld 1 false 6),oj 8 (.bin .shr 7 (cu 51)),oj 9 (.bin .mul 8 (cu 19)),oj 10 (.bin .add 5 9),oj 11 (.ia 5 1 1 (ci 1)),oj 12 (.ld 1 false 11),oj 13 (.bin .and 12 (cu 2251799813685247)),oj 14 (.ia 5 1 1 (ci 0)),oj 15 (.ld 1 false 14),oj 16 (.bin .shr 15 (cu 51)),oj 17 (.bin .add 13 16),oj 18 (.ia 5 1 1 (ci 2)),oj 19 (.ld 1 false 18),oj 20 (.bin .and 19 (cu 2251799813685247)),oj 21 (.ia 5 1 1 (ci 1)),oj 22 (.ld 1 false 21),oj 23 (.bin .shr 22 (cu 51)),oj 24 (.bin .add 20 23),oj 25 (.ia 5 1 1 (ci 3)),oj 26 (.ld 1 false 25),oj 27 (.bin .and 26 (cu 2251799813685247)),oj 28 (.ia 5 1 1 (ci 2)),oj 29 (.ld 1 false 28),oj 30 (.bin .shr 29 (cu 51)),oj 31 (.bin .add 27 30),oj 32 (.ia 5 1 1 (ci 4)),oj 33 (.ld 1 false 32),oj 34 (.bin .and 33 (cu 2251799813685247)),oj 35 (.ia 5 1 1 (ci 3)),oj 36 (.ld 1 false 35),oj 37 (.bin .shr 36 (cu 51)),oj 38 (.bin .add 34 37),oj 39 (.bd [Z5] [(0,1,10),(1,1,17),(2,1,24),(3,1,31),(4,1,38)]),on_ (.st 5 2 39)]
def d156:FnD:=⟨40,[.cell 2 5 true],(.seq (.ops Z048) (.seq (.ops Z049) .ret))⟩
theorem Z0dr:okF Tryz.prog 156 d156=true:=by kernel_rfl
def Z03y:List J:=[oj 1 (.bx 80 0),oj 2 (.al 80 [Z5])]
def Z03z:List J:=[oj 7 (.ld 5 true 1),oj 8 (.call 156 [7]),oj 9 (.call 156 [8]),on_ (.st 5 1 9)]
def Z040:List J:=[oj 10 (.ia 5 1 1 (ci 0)),oj 11 (.ld 1 false 10),oj 12 (.bin .add 11 (cu 19)),oj 13 (.bin .shr 12 (cu 51)),oj 3 (.mv 13)]
def Z041:List J:=[oj 14 (.sla 5 1 1 (some (ci 1)) none none),oj 15 (.len 14),oj 16 (.mv (ci 0))]
def Z042:List J:=[oj 17 (.bin .lss 16 15)]
def Z043:List J:=[oj 18 (.ias 1 14 16),oj 19 (.ld 1 false 18),oj 5 (.mv 19)]
def Z044:List J:=[oj 20 (.mv 5),oj 21 (.mv 3),oj 22 (.bin .add 20 21),oj 23 (.bin .shr 22 (cu 51)),oj 3 (.mv 23)]
def Zxi:IC:=(.seq (.ops Z043) (.ops Z044))
def Z045:List J:=[oj 24 (.bin .add 16 (ci 1)),oj 16 (.mv 24)]
def Zyu:IC:=(.seq (.ops Z042) (.seq (.cond 17 .skip (.exit 0)) (.seq (.block 1 Zxi) (.ops Z045))))
def Zxh:IC:=(.loop Zyu)
def Z046:List J:=[oj 25 (.ia 5 1 1 (ci 0)),oj 26 (.ld 1 false 25),oj 27 (.mv 3),oj 28 (.bin .mul (cu 19) 27),oj 29 (.bin .add 26 28),oj 30 (.ia 5 1 1 (ci 0)),on_ (.st 1 30 29)]
def Z047:List J:=[oj 31 (.mv (ci 0))]
def Zue:List J:=[oj 32 (.bin .lss 31 (ci 4))]
def Zuf:List J:=[oj 33 (.mv 31),oj 6 (.mv 33)]
def Zug:Sch:=(.p [0] (oj 34 (.mv 6)) (.p [1] (oj 35 (.bin .add 34 (ci 1))) (.p [2] (oj 36 (.ia 5 1 1 35)) (.p [4] (oj 38 (.mv 6)) (.p [5] (oj 39 (.ia 5 1 1 38)) (.q [3] (oj 37 (.ld 1 false 36)) (.q [6] (oj 40 (.ld 1 false 39)) (.p [7] (oj 41 (.bin .shr 40 (cu 51))) (.p [8] (oj 42 (.bin .add 37 41)) (.p [9] (oj 43 (.ia 5 1 1 35)) (.e 10 (oe (.st 1 43 42)) .nil)))))))))))
def Zuh:List J:=[oj 44 (.mv 6),oj 45 (.ia 5 1 1 44),oj 46 (.ld 1 false 45),oj 47 (.bin .and 46 (cu 2251799813685247)),oj 48 (.ia 5 1 1 44),on_ (.st 1 48 47)]
def Zxk:IC:=(.seq (.ops Zuf) (.seq (.draw Zug [10]) (.ops Zuh)))
def Zui:List J:=[oj 49 (.bin .add 31 (ci 1)),oj 31 (.mv 49)]
def Zyv:IC:=(.seq (.ops Zue) (.seq (.cond 32 .skip (.exit 2)) (.seq (.block 3 Zxk) (.ops Zui))))
def Zxj:IC:=(.loop Zyv)
def Zuj:List J:=[oj 50 (.ia 5 1 1 (ci 4)),oj 51 (.ld 1 false 50),oj 52 (.bin .and 51 (cu 2251799813685247)),oj 53 (.ia 5 1 1 (ci 4)),on_ (.st 1 53 52)]
def Zuk:List J:=[oj 54 (.ld 5 true 1),on_ (.st 5 2 54)]
def d155:FnD:=⟨55,[.cell 2 5 true],(.seq (.ops Z03y) (.seq (.ops Z03z) (.seq (.ops Z040) (.seq (.seq (.ops Z041) (.block 0 Zxh)) (.seq (.ops Z046) (.seq (.seq (.ops Z047) (.block 2 Zxj)) (.seq (.ops Zuj) (.seq (.ops Zuk) .ret))))))))⟩
theorem Z0dq:okF Tryz.prog 155 d155=true:=by kernel_rfl
def Z07a:List J:=[oj 4 (.mv (cu 0)),oj 5 (.mv (cu 0))]
def Z07b:List J:=[oj 14 (.mv 0),oj 15 (.bin .and 14 (cu 4294967295)),oj 6 (.mv 15)]
def Z07c:List J:=[oj 16 (.mv 0),oj 17 (.bin .shr 16 (cu 32)),oj 7 (.mv 17)]
def Z07d:List J:=[oj 18 (.mv 1),oj 19 (.bin .and 18 (cu 4294967295)),oj 8 (.mv 19)]
def Z07e:List J:=[oj 20 (.mv 1),oj 21 (.bin .shr 20 (cu 32)),oj 9 (.mv 21)]
def Z07f:List J:=[oj 22 (.mv 6),oj 23 (.mv 8),oj 24 (.bin .mul 22 23),oj 10 (.mv 24)]
def Z07g:List J:=[oj 25 (.mv 7),oj 26 (.mv 8),oj 27 (.bin .mul 25 26),oj 28 (.mv 10),oj 29 (.bin .shr 28 (cu 32)),oj 30 (.bin .add 27 29),oj 11 (.mv 30)]
def Z07h:List J:=[oj 31 (.mv 11),oj 32 (.bin .and 31 (cu 4294967295)),oj 12 (.mv 32)]
def Z07i:List J:=[oj 33 (.mv 11),oj 34 (.bin .shr 33 (cu 32)),oj 13 (.mv 34)]
def Z07j:List J:=[oj 35 (.mv 12),oj 36 (.mv 6),oj 37 (.mv 9),oj 38 (.bin .mul 36 37),oj 39 (.bin .add 35 38),oj 12 (.mv 39)]
def Zv4:List J:=[oj 40 (.mv 7),oj 41 (.mv 9),oj 42 (.bin .mul 40 41),oj 43 (.mv 13),oj 44 (.bin .add 42 43),oj 45 (.mv 12),oj 46 (.bin .shr 45 (cu 32)),oj 47 (.bin .add 44 46),oj 4 (.mv 47)]
def Zv5:List J:=[oj 48 (.mv 0),oj 49 (.mv 1),oj 50 (.bin .mul 48 49),oj 5 (.mv 50)]
def d200:FnD:=⟨51,[.tmp 4,.tmp 5],(.seq (.ops Z07a) (.seq (.ops Z07b) (.seq (.ops Z07c) (.seq (.ops Z07d) (.seq (.ops Z07e) (.seq (.ops Z07f) (.seq (.ops Z07g) (.seq (.ops Z07h) (.seq (.ops Z07i) (.seq (.ops Z07j) (.seq (.ops Zv4) (.seq (.ops Zv5) .ret))))))))))))⟩
theorem Z0eb:okF Tryz.prog 200 d200=true:=by kernel_rfl
def Z04a:List J:=[oj 10 (.mv 1),oj 11 (.mv 2),oj 12 (.call 200 [10,11]),oj 9 (.mv 12),oj 13 (.ext 9 0),oj 14 (.ext 9 1),oj 6 (.mv 13),oj 7 (.mv 14)]
def Z04b:List J:=[oj 8 (.mv (cu 0))]
def Z04c:List J:=[oj 16 (.mv 0),oj 17 (.mv 0),oj 18 (.nilc 17),oj 19 (.fa 1 18),oj 20 (.ld 1 false 19),oj 21 (.mv 7),oj 22 (.xcall 158 [20,21,(cu 0)]),oj 15 (.mv 22),oj 23 (.ext 15 0),oj 24 (.ext 15 1),oj 25 (.nilc 16),oj 26 (.fa 1 25),on_ (.st 1 26 23),oj 8 (.mv 24)]
def Z04d:List J:=[oj 28 (.mv 0),oj 29 (.mv 0),oj 30 (.nilc 29),oj 31 (.fa 0 30),oj 32 (.ld 1 false 31),oj 33 (.mv 6),oj 34 (.mv 8),oj 35 (.xcall 158 [32,33,34]),oj 27 (.mv 35),oj 36 (.ext 27 0),oj 37 (.ext 27 1),oj 38 (.nilc 28),oj 39 (.fa 0 38),on_ (.st 1 39 36)]
def d157:FnD:=⟨40,[],(.seq (.ops Z04a) (.seq (.ops Z04b) (.seq (.ops Z04c) (.ops Z04d))))⟩
theorem Z0ds:okF Tryz.prog 157 d157=true:=by kernel_rfl
def Z0jv:List J:=[oj 2 (.bx 80 0),oj 3 (.bx 80 1),oj 4 (.al 80 [Z5])]
def Z0jw:Sch:=(.q [0] (oj 19 (.ld 5 true 2)) (.p [1] (oj 20 (.call 156 [19])) (.q [2] (oj 21 (.ld 5 true 3)) (.p [3] (oj 22 (.call 156 [21])) (.e 4 (oe (.st 5 2 20)) (.e 5 (oe (.st 5 3 22)) .nil))))))
def Z0jx:List J:=[oj 5 (.al 188 [Z10])]
def Z0jy:List J:=[oj 23 (.ld 5 true 2),oj 24 (.mv (ci 0))]
def Z0jz:List J:=[oj 25 (.bin .lss 24 (ci 5))]
def Z0k0:List J:=[oj 26 (.mv 24),oj 27 (.idx 5 1 false 23 24),oj 6 (.mv 26),oj 7 (.mv 27)]
def Z0k1:List J:=[oj 28 (.ld 5 true 3),oj 29 (.mv (ci 0))]
def Z0k2:List J:=[oj 30 (.bin .lss 29 (ci 5))]
def Z0k3:List J:=[oj 31 (.mv 29),oj 32 (.idx 5 1 false 28 29),oj 8 (.mv 31),oj 9 (.mv 32)]
def Z0k4:List J:=[oj 33 (.mv 6),oj 34 (.mv 8),oj 35 (.bin .add 33 34),oj 36 (.bin .lss 35 (ci 5))]
def Z09i:List J:=[oj 37 (.mv 6),oj 38 (.mv 8),oj 39 (.bin .add 37 38),oj 40 (.ia 5 2 5 39),oj 41 (.mv 7),oj 42 (.mv 9),oj 43 (.call 157 [40,41,42])]
def Z09j:List J:=[oj 44 (.mv 6),oj 45 (.mv 8),oj 46 (.bin .add 44 45),oj 47 (.bin .sub 46 (ci 5)),oj 48 (.ia 5 2 5 47),oj 49 (.mv 7),oj 50 (.mv 9),oj 51 (.bin .mul (cu 19) 50),oj 52 (.call 157 [48,49,51])]
def Z0c1:IC:=(.seq (.ops Z0k3) (.seq (.ops Z0k4) (.cond 36 (.ops Z09i) (.ops Z09j))))
def Z09k:List J:=[oj 53 (.bin .add 29 (ci 1)),oj 29 (.mv 53)]
def Z0cp:IC:=(.seq (.ops Z0k2) (.seq (.cond 30 .skip (.exit 2)) (.seq (.block 3 Z0c1) (.ops Z09k))))
def Z0c0:IC:=(.loop Z0cp)
def Z0bz:IC:=(.seq (.ops Z0k0) (.seq (.ops Z0k1) (.block 2 Z0c0)))
def Z09l:List J:=[oj 54 (.bin .add 24 (ci 1)),oj 24 (.mv 54)]
def Z0co:IC:=(.seq (.ops Z0jz) (.seq (.cond 25 .skip (.exit 0)) (.seq (.block 1 Z0bz) (.ops Z09l))))
def Z0by:IC:=(.loop Z0co)
def Z09m:List J:=[oj 10 (.al 80 [Z5])]
def Z09n:List J:=[oj 11 (.mv (cu 0))]
def Z09o:List J:=[oj 55 (.ld 10 true 5),oj 56 (.mv (ci 0))]
def Z09p:List J:=[oj 57 (.bin .lss 56 (ci 5))]
def Z09q:List J:=[oj 58 (.mv 56),oj 59 (.idx 5 2 true 55 56),oj 13 (.al 187 [.ints .u64 2 (List.replicate 2 0)]),oj 12 (.mv 58),on_ (.st 2 13 59)]
def Z09r:List J:=[oj 61 (.fa 1 13),oj 62 (.ld 1 false 61),oj 63 (.mv 11),oj 64 (.xcall 158 [62,63,(cu 0)]),oj 60 (.mv 64),oj 65 (.ext 60 0),oj 66 (.ext 60 1),oj 14 (.mv 65),oj 15 (.mv 66)]
def Z09s:List J:=[oj 67 (.mv 12),oj 68 (.mv 14),oj 69 (.bin .and 68 (cu 2251799813685247)),oj 70 (.ia 5 1 10 67),on_ (.st 1 70 69)]
def Z09t:List J:=[oj 71 (.fa 0 13),oj 72 (.ld 1 false 71),oj 73 (.mv 15),oj 74 (.bin .add 72 73),oj 75 (.bin .shl 74 (cu 13)),oj 76 (.mv 14),oj 77 (.bin .shr 76 (cu 51)),oj 78 (.bin .or 75 77),oj 11 (.mv 78)]
def Z0c3:IC:=(.seq (.ops Z09q) (.seq (.ops Z09r) (.seq (.ops Z09s) (.ops Z09t))))
def Z09u:List J:=[oj 79 (.bin .add 56 (ci 1)),oj 56 (.mv 79)]
def Z0cq:IC:=(.seq (.ops Z09p) (.seq (.cond 57 .skip (.exit 4)) (.seq (.block 5 Z0c3) (.ops Z09u))))
def Z0c2:IC:=(.loop Z0cq)
def Z09v:List J:=[oj 16 (.al 187 [.ints .u64 2 (List.replicate 2 0)])]
def Z09w:List J:=[oj 80 (.mv 11),oj 81 (.call 157 [16,80,(cu 19)])]
def Z09x:List J:=[oj 83 (.fa 1 16),oj 84 (.ld 1 false 83),oj 85 (.ia 5 1 10 (ci 0)),oj 86 (.ld 1 false 85),oj 87 (.xcall 158 [84,86,(cu 0)]),oj 82 (.mv 87),oj 88 (.ext 82 0),oj 89 (.ext 82 1),oj 17 (.mv 88),oj 18 (.mv 89)]
def Z09y:List J:=[oj 90 (.mv 17),oj 91 (.bin .and 90 (cu 2251799813685247)),oj 92 (.ia 5 1 10 (ci 0)),on_ (.st 1 92 91)]
def Z09z:List J:=[oj 93 (.ia 5 1 10 (ci 1)),oj 94 (.ld 1 false 93),oj 95 (.fa 0 16),oj 96 (.ld 1 false 95),oj 97 (.mv 18),oj 98 (.bin .add 96 97),oj 99 (.bin .shl 98 (cu 13)),oj 100 (.mv 17),oj 101 (.bin .shr 100 (cu 51)),oj 102 (.bin .or 99 101),oj 103 (.bin .add 94 102),oj 104 (.ia 5 1 10 (ci 1)),on_ (.st 1 104 103)]
def Z0a0:List J:=[oj 105 (.ld 5 true 10),oj 106 (.call 155 [105]),on_ (.st 5 4 106)]
def d92:FnD:=⟨107,[.cell 4 5 true],(.seq (.ops Z0jv) (.seq (.draw Z0jw [4,5]) (.seq (.ops Z0jx) (.seq (.seq (.ops Z0jy) (.block 0 Z0by)) (.seq (.ops Z09m) (.seq (.ops Z09n) (.seq (.seq (.ops Z09o) (.block 4 Z0c2)) (.seq (.ops Z09v) (.seq (.ops Z09w) (.seq (.ops Z09x) (.seq (.ops Z09y) (.seq (.ops Z09z) (.seq (.ops Z0a0) .ret)))))))))))))⟩
theorem ok92:okF Tryz.prog 92 d92=true:=by kernel_rfl
def Z00i:List J:=[oj 1 (.bx 80 0),oj 2 (.al 80 [Z5])]
def Z00j:List J:=[oj 3 (.ld 5 true 1),oj 4 (.ld 5 true 1),oj 5 (.call 92 [3,4]),on_ (.st 5 2 5)]
def d123:FnD:=⟨6,[.cell 2 5 true],(.seq (.ops Z00i) (.seq (.ops Z00j) .ret))⟩
theorem Z0d5:okF Tryz.prog 123 d123=true:=by kernel_rfl
def Z06t:List J:=[oj 2 (.al 80 [Z5])]
def Z06u:List J:=[oj 3 (.mv 0),oj 4 (.bd [Z5] [(0,1,3)]),oj 5 (.call 155 [4]),on_ (.st 5 2 5)]
def d188:FnD:=⟨6,[.cell 2 5 true],(.seq (.ops Z06t) (.seq (.ops Z06u) .ret))⟩
theorem Z0e6:okF Tryz.prog 188 d188=true:=by kernel_rfl
def Z03g:List J:=[oj 2 (.bx 80 0),oj 3 (.bx 22 1),oj 4 (.al 80 [Z5])]
def Z03h:List J:=[oj 7 (.call 188 [(cu 1)]),oj 5 (.al 80 [Z5]),on_ (.st 5 5 7)]
def Z03i:List J:=[oj 6 (.mv (ci 255))]
def Z03j:List J:=[oj 8 (.mv 6),oj 9 (.bin .geq 8 (ci 0))]
def Z03l:List J:=[oj 12 (.ld 5 true 5),oj 13 (.call 123 [12]),on_ (.st 5 5 13)]
def Z03m:List J:=[oj 14 (.mv 6),oj 15 (.bin .quo 14 (ci 8)),oj 16 (.ia 32 1 3 15),oj 17 (.ld 1 false 16),oj 18 (.mv 6),oj 19 (.bin .rem 18 (ci 8)),oj 20 (.bin .shr 17 19),oj 21 (.bin .and 20 (.const (.int .u8 1))),oj 22 (.bin .eql 21 (.const (.int .u8 1)))]
def Z03n:List J:=[oj 23 (.ld 5 true 5),oj 24 (.ld 5 true 2),oj 25 (.call 92 [23,24]),on_ (.st 5 5 25)]
def Zxe:IC:=(.seq (.ops Z03l) (.seq (.ops Z03m) (.cond 22 (.ops Z03n) .skip)))
def Z03k:List J:=[oj 10 (.mv 6),oj 11 (.bin .sub 10 (ci 1)),oj 6 (.mv 11)]
def Zys:IC:=(.seq (.seq (.ops Z03j) (.cond 9 .skip (.exit 0))) (.seq (.block 1 Zxe) (.ops Z03k)))
def Zxd:IC:=(.loop Zys)
def Z03o:List J:=[oj 26 (.ld 5 true 5),on_ (.st 5 4 26)]
def d153:FnD:=⟨27,[.cell 4 5 true],(.seq (.ops Z03g) (.seq (.ops Z03h) (.seq (.seq (.ops Z03i) (.block 0 Zxd)) (.seq (.ops Z03o) .ret))))⟩
theorem Z0do:okF Tryz.prog 153 d153=true:=by kernel_rfl
def Z03p:List J:=[oj 4 (.al 22 [.ints .u8 32 (List.replicate 32 0)])]
def Z03q:List J:=[oj 5 (.al 22 [.ints .u8 32 (List.replicate 32 0)])]
def Z03r:List J:=[oj 7 (.mv (ci 0))]
def Z03s:List J:=[oj 8 (.bin .lss 7 (ci 32))]
def Z03t:List J:=[oj 9 (.mv 7),oj 6 (.mv 9)]
def Z03u:List J:=[oj 10 (.mv 6),oj 11 (.ia 32 1 5 10),on_ (.st 1 11 (.const (.int .u8 255)))]
def Zxg:IC:=(.seq (.ops Z03t) (.ops Z03u))
def Z03v:List J:=[oj 12 (.bin .add 7 (ci 1)),oj 7 (.mv 12)]
def Zyt:IC:=(.seq (.ops Z03s) (.seq (.cond 8 .skip (.exit 0)) (.seq (.block 1 Zxg) (.ops Z03v))))
def Zxf:IC:=(.loop Zyt)
def Z03w:List J:=[oj 13 (.mv 0),oj 14 (.mv 1),oj 15 (.ia 32 1 5 (ci 0)),on_ (.st 1 15 13),oj 16 (.ia 32 1 5 (ci 31)),on_ (.st 1 16 14)]
def Z03x:List J:=[oj 17 (.ld 32 true 5),on_ (.st 32 4 17)]
def d154:FnD:=⟨18,[.cell 4 32 true],(.seq (.ops Z03p) (.seq (.ops Z03q) (.seq (.seq (.ops Z03r) (.block 0 Zxf)) (.seq (.ops Z03w) (.seq (.ops Z03x) .ret)))))⟩
theorem Z0dp:okF Tryz.prog 154 d154=true:=by kernel_rfl
def Z0jj:List J:=[oj 1 (.bx 80 0),oj 2 (.al 80 [Z5])]
def Z0jk:Sch:=(.p [1] (oj 4 (.call 154 [(.const (.int .u8 235)),(.const (.int .u8 127))])) (.q [0] (oj 3 (.ld 5 true 1)) (.p [2] (oj 5 (.call 153 [3,4])) (.e 3 (oe (.st 5 2 5)) .nil))))
def d90:FnD:=⟨6,[.cell 2 5 true],(.seq (.ops Z0jj) (.seq (.draw Z0jk [3]) .ret))⟩
theorem ok90:okF Tryz.prog 90 d90=true:=by kernel_rfl
def Z0jl:List J:=[oj 1 (.bx 80 0),oj 2 (.al 22 [.ints .u8 32 (List.replicate 32 0)])]
def Z0jm:List J:=[oj 8 (.ld 5 true 1),oj 9 (.call 155 [8]),on_ (.st 5 1 9)]
def Z0jn:List J:=[oj 3 (.al 22 [.ints .u8 32 (List.replicate 32 0)])]
def Z0jo:List J:=[oj 10 (.mv (ci 0))]
def Z0jp:List J:=[oj 11 (.bin .lss 10 (ci 32))]
def Z0jq:List J:=[oj 12 (.mv 10),oj 4 (.mv 12)]
def Z0jr:List J:=[oj 13 (.mv 4),oj 14 (.bin .mul (ci 8) 13),oj 15 (.bin .quo 14 (ci 51)),oj 16 (.mv 4),oj 17 (.bin .mul (ci 8) 16),oj 18 (.bin .rem 17 (ci 51)),oj 5 (.mv 15),oj 6 (.mv 18)]
def Z0js:List J:=[oj 19 (.mv 5),oj 20 (.ia 5 1 1 19),oj 21 (.ld 1 false 20),oj 22 (.mv 6),oj 23 (.bin .shr 21 22),oj 7 (.mv 23)]
def Z0jt:List J:=[oj 24 (.mv 6),oj 25 (.bin .gtr 24 (ci 43)),oj 26 (.mv 25),.lg false 26 29 none [.op ⟨some 27,(some (26,true)),.mv 5⟩,.op ⟨some 28,(some (26,true)),.bin .lss 27 (ci 4)⟩] 28]
def Z0ju:List J:=[oj 30 (.mv 7),oj 31 (.mv 5),oj 32 (.bin .add 31 (ci 1)),oj 33 (.ia 5 1 1 32),oj 34 (.ld 1 false 33),oj 35 (.mv 6),oj 36 (.bin .sub (ci 51) 35),oj 37 (.bin .shl 34 36),oj 38 (.bin .or 30 37),oj 7 (.mv 38)]
def Z09f:List J:=[oj 39 (.mv 4),oj 40 (.mv 7),oj 41 (.conv .u8 40),oj 42 (.ia 32 1 3 39),on_ (.st 1 42 41)]
def Z0bx:IC:=(.seq (.ops Z0jq) (.seq (.ops Z0jr) (.seq (.ops Z0js) (.seq (.seq (.ops Z0jt) (.cond 29 (.ops Z0ju) .skip)) (.ops Z09f)))))
def Z09g:List J:=[oj 43 (.bin .add 10 (ci 1)),oj 10 (.mv 43)]
def Z0cn:IC:=(.seq (.ops Z0jp) (.seq (.cond 11 .skip (.exit 0)) (.seq (.block 1 Z0bx) (.ops Z09g))))
def Z0bw:IC:=(.loop Z0cn)
def Z09h:List J:=[oj 44 (.ld 32 true 3),on_ (.st 32 2 44)]
def d91:FnD:=⟨45,[.cell 2 32 true],(.seq (.ops Z0jl) (.seq (.ops Z0jm) (.seq (.ops Z0jn) (.seq (.seq (.ops Z0jo) (.block 0 Z0bw)) (.seq (.ops Z09h) .ret)))))⟩
theorem ok91:okF Tryz.prog 91 d91=true:=by kernel_rfl
def Z0k5:List J:=[oj 1 (.bx 80 0),oj 2 (.mv (.const (.bool false)))]
def Z0k6:List J:=[oj 3 (.ld 5 true 1),oj 4 (.call 155 [3]),oj 5 (.idx 5 1 false 4 (ci 0)),oj 6 (.bin .and 5 (cu 1)),oj 7 (.bin .eql 6 (cu 1)),oj 2 (.mv 7)]
def d93:FnD:=⟨8,[.tmp 2],(.seq (.ops Z0k5) (.seq (.ops Z0k6) .ret))⟩
theorem ok93:okF Tryz.prog 93 d93=true:=by kernel_rfl
def Z0hc:List J:=[oj 1 (.bx 82 0),oj 2 (.al 29 [.ints .u8 32 (List.replicate 32 0)])]
def Z0hd:List J:=[oj 5 (.fa 10 1),oj 6 (.ld 5 true 5),oj 7 (.call 90 [6]),oj 3 (.al 80 [Z5]),on_ (.st 5 3 7)]
def Z0he:List J:=[oj 8 (.fa 5 1),oj 9 (.ld 5 true 8),oj 10 (.ld 5 true 3),oj 11 (.call 92 [9,10]),oj 12 (.call 91 [11]),oj 4 (.al 29 [.ints .u8 32 (List.replicate 32 0)]),on_ (.st 32 4 12)]
def Z0hf:List J:=[oj 13 (.fa 0 1),oj 14 (.ld 5 true 13),oj 15 (.ld 5 true 3),oj 16 (.call 92 [14,15]),oj 17 (.call 93 [16])]
def Z0hg:List J:=[oj 18 (.ia 32 1 4 (ci 31)),oj 19 (.ld 1 false 18),oj 20 (.bin .or 19 (.const (.int .u8 128))),oj 21 (.ia 32 1 4 (ci 31)),on_ (.st 1 21 20)]
def Z0hh:List J:=[oj 22 (.ld 32 true 4),on_ (.st 32 2 22)]
def d50:FnD:=⟨23,[.cell 2 32 true],(.seq (.ops Z0hc) (.seq (.ops Z0hd) (.seq (.ops Z0he) (.seq (.seq (.ops Z0hf) (.cond 17 (.ops Z0hg) .skip)) (.seq (.ops Z0hh) .ret)))))⟩
theorem ok50:okF Tryz.prog 50 d50=true:=by kernel_rfl
def Z00k:List J:=[oj 0 (.al 80 [Z5])]
def Z00l:List J:=[oj 1 (.bd [Z5] [(0,1,(cu 1))]),on_ (.st 5 0 1)]
def d124:FnD:=⟨2,[.cell 0 5 true],(.seq (.ops Z00k) (.seq (.ops Z00l) .ret))⟩
theorem Z0d6:okF Tryz.prog 124 d124=true:=by kernel_rfl
def Z027:List J:=[oj 0 (.al 82 [Z5,Z5,Z5,Z5])]
def Z028:List J:=[oj 1 (.call 124 []),oj 2 (.call 124 []),oj 3 (.bd [Z5,Z5,Z5,Z5] [(5,5,1),(10,5,2)]),on_ (.st 20 0 3)]
def d134:FnD:=⟨4,[.cell 0 20 true],(.seq (.ops Z027) (.seq (.ops Z028) .ret))⟩
theorem Z0dg:okF Tryz.prog 134 d134=true:=by kernel_rfl
def Z00y:List J:=[oj 2 (.bx 80 0),oj 3 (.bx 80 1),oj 4 (.al 80 [Z5])]
def Z00z:Sch:=(.q [0] (oj 6 (.ld 5 true 2)) (.p [1] (oj 7 (.call 156 [6])) (.q [2] (oj 8 (.ld 5 true 3)) (.p [3] (oj 9 (.call 156 [8])) (.e 4 (oe (.st 5 2 7)) (.e 5 (oe (.st 5 3 9)) .nil))))))
def Z010:List J:=[oj 10 (.mv (ci 0))]
def Z011:List J:=[oj 11 (.bin .lss 10 (ci 5))]
def Z012:List J:=[oj 12 (.mv 10),oj 5 (.mv 12)]
def Z013:Sch:=(.p [0] (oj 13 (.mv 5)) (.p [1] (oj 14 (.ia 5 1 2 13)) (.p [3] (oj 16 (.mv 5)) (.p [4] (oj 17 (.ia 5 1 3 16)) (.q [2] (oj 15 (.ld 1 false 14)) (.q [5] (oj 18 (.ld 1 false 17)) (.p [6] (oj 19 (.bin .add 15 18)) (.p [7] (oj 20 (.ia 5 1 2 13)) (.e 8 (oe (.st 1 20 19)) .nil)))))))))
def Zwy:IC:=(.seq (.ops Z012) (.draw Z013 [8]))
def Z014:List J:=[oj 21 (.bin .add 10 (ci 1)),oj 10 (.mv 21)]
def Zyk:IC:=(.seq (.ops Z011) (.seq (.cond 11 .skip (.exit 0)) (.seq (.block 1 Zwy) (.ops Z014))))
def Zwx:IC:=(.loop Zyk)
def Z015:List J:=[oj 22 (.ld 5 true 2),oj 23 (.call 155 [22]),on_ (.st 5 4 23)]
def d127:FnD:=⟨24,[.cell 4 5 true],(.seq (.ops Z00y) (.seq (.draw Z00z [4,5]) (.seq (.seq (.ops Z010) (.block 0 Zwx)) (.seq (.ops Z015) .ret))))⟩
theorem Z0d9:okF Tryz.prog 127 d127=true:=by kernel_rfl
def Z01a:List J:=[oj 1 (.bx 80 0),oj 2 (.al 80 [Z5])]
def Z01b:List J:=[oj 5 (.ld 5 true 1),oj 6 (.call 155 [5]),on_ (.st 5 1 6)]
def Z01c:List J:=[oj 7 (.ia 5 1 1 (ci 0)),oj 8 (.ld 1 false 7),oj 9 (.bin .sub (cu 4503599627370458) 8),oj 10 (.bd [Z5] [(0,1,9)]),oj 3 (.al 80 [Z5]),on_ (.st 5 3 10)]
def Z01d:List J:=[oj 4 (.mv (ci 1))]
def Z01e:List J:=[oj 11 (.mv 4),oj 12 (.bin .lss 11 (ci 5))]
def Z01g:List J:=[oj 15 (.mv 4),oj 16 (.mv 4),oj 17 (.ia 5 1 1 16),oj 18 (.ld 1 false 17),oj 19 (.bin .sub (cu 4503599627370494) 18),oj 20 (.ia 5 1 3 15),on_ (.st 1 20 19)]
def Zx0:IC:=(.ops Z01g)
def Z01f:List J:=[oj 13 (.mv 4),oj 14 (.bin .add 13 (ci 1)),oj 4 (.mv 14)]
def Zyl:IC:=(.seq (.seq (.ops Z01e) (.cond 12 .skip (.exit 0))) (.seq (.block 1 Zx0) (.ops Z01f)))
def Zwz:IC:=(.loop Zyl)
def Z01h:List J:=[oj 21 (.ld 5 true 3),oj 22 (.call 155 [21]),on_ (.st 5 2 22)]
def d130:FnD:=⟨23,[.cell 2 5 true],(.seq (.ops Z01a) (.seq (.ops Z01b) (.seq (.ops Z01c) (.seq (.seq (.ops Z01d) (.block 0 Zwz)) (.seq (.ops Z01h) .ret)))))⟩
theorem Z0dc:okF Tryz.prog 130 d130=true:=by kernel_rfl
def Z00w:List J:=[oj 2 (.bx 80 0),oj 3 (.bx 80 1),oj 4 (.al 80 [Z5])]
def Z00x:Sch:=(.q [0] (oj 5 (.ld 5 true 2)) (.q [1] (oj 6 (.ld 5 true 3)) (.p [2] (oj 7 (.call 130 [6])) (.p [3] (oj 8 (.call 127 [5,7])) (.e 4 (oe (.st 5 4 8)) .nil)))))
def d126:FnD:=⟨9,[.cell 4 5 true],(.seq (.ops Z00w) (.seq (.draw Z00x [4]) .ret))⟩
theorem Z0d8:okF Tryz.prog 126 d126=true:=by kernel_rfl
def Z06z:List J:=[oj 4 (.bx 80 0),oj 5 (.bx 80 1),oj 6 (.bx 80 2),oj 7 (.bx 80 3),oj 8 (.al 82 [Z5,Z5,Z5,Z5])]
def Z070:Sch:=(.q [0] (oj 9 (.ld 5 true 4)) (.q [1] (oj 10 (.ld 5 true 5)) (.p [2] (oj 11 (.call 92 [9,10])) (.q [3] (oj 12 (.ld 5 true 6)) (.q [4] (oj 13 (.ld 5 true 7)) (.p [5] (oj 14 (.call 92 [12,13])) (.q [6] (oj 15 (.ld 5 true 5)) (.q [7] (oj 16 (.ld 5 true 6)) (.p [8] (oj 17 (.call 92 [15,16])) (.q [9] (oj 18 (.ld 5 true 4)) (.q [10] (oj 19 (.ld 5 true 7)) (.p [11] (oj 20 (.call 92 [18,19])) (.p [12] (oj 21 (.bd [Z5,Z5,Z5,Z5] [(0,5,11),(5,5,14),(10,5,17),(15,5,20)])) (.e 13 (oe (.st 20 8 21)) .nil))))))))))))))
def d191:FnD:=⟨22,[.cell 8 20 true],(.seq (.ops Z06z) (.seq (.draw Z070 [13]) .ret))⟩
theorem Z0e8:okF Tryz.prog 191 d191=true:=by kernel_rfl
def Z071:List J:=[oj 0 (.al 80 [Z5])]
def Z072:List J:=[oj 1 (.bd [Z5] [(0,1,(cu 1859910466990425)),(1,1,(cu 932731440258426)),(2,1,(cu 1072319116312658)),(3,1,(cu 1815898335770999)),(4,1,(cu 633789495995903))]),on_ (.st 5 0 1)]
def d192:FnD:=⟨2,[.cell 0 5 true],(.seq (.ops Z071) (.seq (.ops Z072) .ret))⟩
theorem Z0e9:okF Tryz.prog 192 d192=true:=by kernel_rfl
def Z02i:List J:=[oj 2 (.bx 82 0),oj 3 (.bx 82 1),oj 4 (.al 82 [Z5,Z5,Z5,Z5])]
def Z02j:Sch:=(.p [0] (oj 10 (.fa 5 2)) (.p [2] (oj 12 (.fa 0 2)) (.p [5] (oj 15 (.fa 5 3)) (.p [7] (oj 17 (.fa 0 3)) (.q [1] (oj 11 (.ld 5 true 10)) (.q [3] (oj 13 (.ld 5 true 12)) (.p [4] (oj 14 (.call 126 [11,13])) (.q [6] (oj 16 (.ld 5 true 15)) (.q [8] (oj 18 (.ld 5 true 17)) (.p [9] (oj 19 (.call 126 [16,18])) (.p [10] (oj 20 (.call 92 [14,19])) (.e 11 (oi 5 (.al 80 [Z5])) (.e 12 (oe (.st 5 5 20)) .nil)))))))))))))
def Z02k:Sch:=(.p [0] (oj 21 (.fa 5 2)) (.p [2] (oj 23 (.fa 0 2)) (.p [5] (oj 26 (.fa 5 3)) (.p [7] (oj 28 (.fa 0 3)) (.q [1] (oj 22 (.ld 5 true 21)) (.q [3] (oj 24 (.ld 5 true 23)) (.p [4] (oj 25 (.call 127 [22,24])) (.q [6] (oj 27 (.ld 5 true 26)) (.q [8] (oj 29 (.ld 5 true 28)) (.p [9] (oj 30 (.call 127 [27,29])) (.p [10] (oj 31 (.call 92 [25,30])) (.e 11 (oi 6 (.al 80 [Z5])) (.e 12 (oe (.st 5 6 31)) .nil)))))))))))))
def Z02l:List J:=[oj 32 (.call 192 []),oj 7 (.al 80 [Z5]),on_ (.st 5 7 32)]
def Z02m:Sch:=(.p [0] (oj 33 (.fa 15 2)) (.p [4] (oj 37 (.fa 15 3)) (.q [1] (oj 34 (.ld 5 true 33)) (.q [2] (oj 35 (.ld 5 true 7)) (.p [3] (oj 36 (.call 92 [34,35])) (.q [5] (oj 38 (.ld 5 true 37)) (.p [6] (oj 39 (.call 92 [36,38])) (.e 7 (oi 8 (.al 80 [Z5])) (.e 8 (oe (.st 5 8 39)) .nil)))))))))
def Z02n:Sch:=(.p [0] (oj 40 (.fa 10 2)) (.p [2] (oj 42 (.fa 10 2)) (.p [5] (oj 45 (.fa 10 3)) (.q [1] (oj 41 (.ld 5 true 40)) (.q [3] (oj 43 (.ld 5 true 42)) (.p [4] (oj 44 (.call 127 [41,43])) (.q [6] (oj 46 (.ld 5 true 45)) (.p [7] (oj 47 (.call 92 [44,46])) (.e 8 (oi 9 (.al 80 [Z5])) (.e 9 (oe (.st 5 9 47)) .nil))))))))))
def Z02o:Sch:=(.q [0] (oj 48 (.ld 5 true 6)) (.q [1] (oj 49 (.ld 5 true 5)) (.p [2] (oj 50 (.call 126 [48,49])) (.q [3] (oj 51 (.ld 5 true 9)) (.q [4] (oj 52 (.ld 5 true 8)) (.p [5] (oj 53 (.call 126 [51,52])) (.q [6] (oj 54 (.ld 5 true 9)) (.q [7] (oj 55 (.ld 5 true 8)) (.p [8] (oj 56 (.call 127 [54,55])) (.q [9] (oj 57 (.ld 5 true 6)) (.q [10] (oj 58 (.ld 5 true 5)) (.p [11] (oj 59 (.call 127 [57,58])) (.p [12] (oj 60 (.call 191 [50,53,56,59])) (.e 13 (oe (.st 20 4 60)) .nil))))))))))))))
def d136:FnD:=⟨61,[.cell 4 20 true],(.seq (.ops Z02i) (.seq (.draw Z02j [12]) (.seq (.draw Z02k [12]) (.seq (.ops Z02l) (.seq (.draw Z02m [8]) (.seq (.draw Z02n [9]) (.seq (.draw Z02o [13]) .ret)))))))⟩
theorem Z0di:okF Tryz.prog 136 d136=true:=by kernel_rfl
def Z01y:List J:=[oj 1 (.bx 82 0),oj 2 (.al 166 [.rows 20 16 (fun _=>cells [Z5,Z5,Z5,Z5])])]
def Z01z:List J:=[oj 3 (.al 166 [.rows 20 16 (fun _=>cells [Z5,Z5,Z5,Z5])])]
def Z020:List J:=[oj 5 (.call 134 []),oj 6 (.ia 16 20 3 (ci 0)),on_ (.st 20 6 5)]
def Z021:List J:=[oj 7 (.mv (ci 0))]
def Z022:List J:=[oj 8 (.bin .lss 7 (ci 15))]
def Z023:List J:=[oj 9 (.mv 7),oj 4 (.mv 9)]
def Z024:Sch:=(.p [0] (oj 10 (.mv 4)) (.p [1] (oj 11 (.bin .add 10 (ci 1))) (.p [2] (oj 12 (.mv 4)) (.p [3] (oj 13 (.ia 16 20 3 12)) (.q [4] (oj 14 (.ld 20 true 13)) (.q [5] (oj 15 (.ld 20 true 1)) (.p [6] (oj 16 (.call 136 [14,15])) (.p [7] (oj 17 (.ia 16 20 3 11)) (.e 8 (oe (.st 20 17 16)) .nil)))))))))
def Zx6:IC:=(.seq (.ops Z023) (.draw Z024 [8]))
def Z025:List J:=[oj 18 (.bin .add 7 (ci 1)),oj 7 (.mv 18)]
def Zyo:IC:=(.seq (.ops Z022) (.seq (.cond 8 .skip (.exit 0)) (.seq (.block 1 Zx6) (.ops Z025))))
def Zx5:IC:=(.loop Zyo)
def Z026:List J:=[oj 19 (.ld 320 true 3),on_ (.st 320 2 19)]
def d133:FnD:=⟨20,[.cell 2 320 true],(.seq (.ops Z01y) (.seq (.ops Z01z) (.seq (.ops Z020) (.seq (.seq (.ops Z021) (.block 0 Zx5)) (.seq (.ops Z026) .ret)))))⟩
theorem Z0df:okF Tryz.prog 133 d133=true:=by kernel_rfl
def Z029:List J:=[oj 1 (.bx 82 0),oj 2 (.al 82 [Z5,Z5,Z5,Z5])]
def Z02a:List J:=[oj 10 (.fa 0 1),oj 11 (.ld 5 true 10),oj 12 (.call 123 [11]),oj 3 (.al 80 [Z5]),on_ (.st 5 3 12)]
def Z02b:List J:=[oj 13 (.fa 5 1),oj 14 (.ld 5 true 13),oj 15 (.call 123 [14]),oj 4 (.al 80 [Z5]),on_ (.st 5 4 15)]
def Z02c:List J:=[oj 16 (.fa 10 1),oj 17 (.ld 5 true 16),oj 18 (.call 123 [17]),oj 5 (.al 80 [Z5]),on_ (.st 5 5 18)]
def Z02d:List J:=[oj 19 (.ld 5 true 3),oj 20 (.ld 5 true 4),oj 21 (.call 127 [19,20]),oj 6 (.al 80 [Z5]),on_ (.st 5 6 21)]
def Z02e:Sch:=(.p [1] (oj 23 (.fa 0 1)) (.p [3] (oj 25 (.fa 5 1)) (.q [0] (oj 22 (.ld 5 true 6)) (.q [2] (oj 24 (.ld 5 true 23)) (.q [4] (oj 26 (.ld 5 true 25)) (.p [5] (oj 27 (.call 127 [24,26])) (.p [6] (oj 28 (.call 123 [27])) (.p [7] (oj 29 (.call 126 [22,28])) (.e 8 (oi 7 (.al 80 [Z5])) (.e 9 (oe (.st 5 7 29)) .nil))))))))))
def Z02f:List J:=[oj 30 (.ld 5 true 3),oj 31 (.ld 5 true 4),oj 32 (.call 126 [30,31]),oj 8 (.al 80 [Z5]),on_ (.st 5 8 32)]
def Z02g:Sch:=(.q [0] (oj 33 (.ld 5 true 5)) (.q [1] (oj 34 (.ld 5 true 5)) (.p [2] (oj 35 (.call 127 [33,34])) (.q [3] (oj 36 (.ld 5 true 8)) (.p [4] (oj 37 (.call 127 [35,36])) (.e 5 (oi 9 (.al 80 [Z5])) (.e 6 (oe (.st 5 9 37)) .nil)))))))
def Z02h:List J:=[oj 38 (.ld 5 true 7),oj 39 (.ld 5 true 9),oj 40 (.ld 5 true 8),oj 41 (.ld 5 true 6),oj 42 (.call 191 [38,39,40,41]),on_ (.st 20 2 42)]
def d135:FnD:=⟨43,[.cell 2 20 true],(.seq (.ops Z029) (.seq (.ops Z02a) (.seq (.ops Z02b) (.seq (.ops Z02c) (.seq (.ops Z02d) (.seq (.draw Z02e [9]) (.seq (.ops Z02f) (.seq (.draw Z02g [6]) (.seq (.ops Z02h) .ret)))))))))⟩
theorem Z0dh:okF Tryz.prog 135 d135=true:=by kernel_rfl
def Z02p:List J:=[oj 2 (.bx 74 0),oj 4 (.mv (.const (.int .u8 0)))]
def Z02q:List J:=[oj 5 (.mv 1),oj 6 (.bin .quo 5 (ci 2)),oj 7 (.bin .sub (ci 31) 6),oj 8 (.ia 32 1 2 7),oj 9 (.ld 1 false 8),oj 10 (.mv 1),oj 11 (.bin .rem 10 (ci 2)),oj 12 (.bin .sub (ci 1) 11),oj 13 (.bin .mul (ci 4) 12),oj 14 (.bin .shr 9 13),oj 15 (.bin .and 14 (.const (.int .u8 15))),oj 4 (.mv 15)]
def d137:FnD:=⟨16,[.tmp 4],(.seq (.ops Z02p) (.seq (.ops Z02q) .ret))⟩
theorem Z0dj:okF Tryz.prog 137 d137=true:=by kernel_rfl
def Z0k7:List J:=[oj 2 (.bx 74 0),oj 3 (.bx 82 1),oj 4 (.al 82 [Z5,Z5,Z5,Z5])]
def Z0k8:List J:=[oj 8 (.ld 20 true 3),oj 9 (.call 133 [8]),oj 5 (.al 166 [.rows 20 16 (fun _=>cells [Z5,Z5,Z5,Z5])]),on_ (.st 320 5 9)]
def Z0k9:List J:=[oj 10 (.call 134 []),oj 6 (.al 82 [Z5,Z5,Z5,Z5]),on_ (.st 20 6 10)]
def Z0ka:List J:=[oj 11 (.mv (ci 0))]
def Z0kb:List J:=[oj 12 (.bin .lss 11 (ci 64))]
def Z0kc:List J:=[oj 13 (.mv 11),oj 7 (.mv 13)]
def Z0kd:List J:=[oj 14 (.mv (ci 0))]
def Z0ke:List J:=[oj 15 (.bin .lss 14 (ci 4))]
def Z0kf:List J:=[oj 16 (.ld 20 true 6),oj 17 (.call 135 [16]),on_ (.st 20 6 17)]
def Z0c7:IC:=(.ops Z0kf)
def Z0kg:List J:=[oj 18 (.bin .add 14 (ci 1)),oj 14 (.mv 18)]
def Z0cs:IC:=(.seq (.ops Z0ke) (.seq (.cond 15 .skip (.exit 2)) (.seq (.block 3 Z0c7) (.ops Z0kg))))
def Z0c6:IC:=(.loop Z0cs)
def Z0a1:Sch:=(.p [2] (oj 21 (.mv 7)) (.q [0] (oj 19 (.ld 20 true 6)) (.q [1] (oj 20 (.ld 32 true 2)) (.p [3] (oj 22 (.call 137 [20,21])) (.p [4] (oj 23 (.ia 16 20 5 22)) (.q [5] (oj 24 (.ld 20 true 23)) (.p [6] (oj 25 (.call 136 [19,24])) (.e 7 (oe (.st 20 6 25)) .nil))))))))
def Z0c5:IC:=(.seq (.ops Z0kc) (.seq (.seq (.ops Z0kd) (.block 2 Z0c6)) (.draw Z0a1 [7])))
def Z0a2:List J:=[oj 26 (.bin .add 11 (ci 1)),oj 11 (.mv 26)]
def Z0cr:IC:=(.seq (.ops Z0kb) (.seq (.cond 12 .skip (.exit 0)) (.seq (.block 1 Z0c5) (.ops Z0a2))))
def Z0c4:IC:=(.loop Z0cr)
def Z0a3:List J:=[oj 27 (.ld 20 true 6),on_ (.st 20 4 27)]
def d94:FnD:=⟨28,[.cell 4 20 true],(.seq (.ops Z0k7) (.seq (.ops Z0k8) (.seq (.ops Z0k9) (.seq (.seq (.ops Z0ka) (.block 0 Z0c4)) (.seq (.ops Z0a3) .ret)))))⟩
theorem ok94:okF Tryz.prog 94 d94=true:=by kernel_rfl
def Z008:List J:=[oj 1 (.bx 22 0),oj 2 (.al 80 [Z5])]
def Z009:List J:=[oj 3 (.al 80 [Z5])]
def Z00a:List J:=[oj 8 (.ld 32 true 1),oj 9 (.mv (ci 0))]
def Z00b:List J:=[oj 10 (.bin .lss 9 (ci 32))]
def Z00c:List J:=[oj 11 (.mv 9),oj 12 (.idx 32 1 false 8 9),oj 4 (.mv 11),oj 5 (.mv 12)]
def Z00d:List J:=[oj 13 (.mv 4),oj 14 (.bin .eql 13 (ci 31))]
def Z00e:List J:=[oj 15 (.mv 5),oj 16 (.bin .and 15 (.const (.int .u8 127))),oj 5 (.mv 16)]
def Z00f:List J:=[oj 17 (.mv 4),oj 18 (.bin .mul (ci 8) 17),oj 19 (.bin .quo 18 (ci 51)),oj 20 (.mv 4),oj 21 (.bin .mul (ci 8) 20),oj 22 (.bin .rem 21 (ci 51)),oj 6 (.mv 19),oj 7 (.mv 22)]
def Z00g:Sch:=(.p [0] (oj 23 (.mv 6)) (.p [1] (oj 24 (.ia 5 1 3 23)) (.p [3] (oj 26 (.mv 5)) (.p [4] (oj 27 (.conv .u64 26)) (.p [5] (oj 28 (.mv 7)) (.p [6] (oj 29 (.bin .shl 27 28)) (.p [7] (oj 30 (.bin .and 29 (cu 2251799813685247))) (.q [2] (oj 25 (.ld 1 false 24)) (.p [8] (oj 31 (.bin .or 25 30)) (.p [9] (oj 32 (.ia 5 1 3 23)) (.e 10 (oe (.st 1 32 31)) .nil)))))))))))
def Z00h:List J:=[oj 33 (.mv 7),oj 34 (.bin .gtr 33 (ci 43)),oj 35 (.mv 34),.lg false 35 38 none [.op ⟨some 36,(some (35,true)),.mv 6⟩,.op ⟨some 37,(some (35,true)),.bin .lss 36 (ci 4)⟩] 37]
def Zu9:Sch:=(.p [0] (oj 39 (.mv 6)) (.p [1] (oj 40 (.bin .add 39 (ci 1))) (.p [2] (oj 41 (.ia 5 1 3 40)) (.p [4] (oj 43 (.mv 5)) (.p [5] (oj 44 (.conv .u64 43)) (.p [6] (oj 45 (.mv 7)) (.p [7] (oj 46 (.bin .sub (ci 51) 45)) (.p [8] (oj 47 (.bin .shr 44 46)) (.q [3] (oj 42 (.ld 1 false 41)) (.p [9] (oj 48 (.bin .or 42 47)) (.p [10] (oj 49 (.ia 5 1 3 40)) (.e 11 (oe (.st 1 49 48)) .nil))))))))))))
def Zwv:IC:=(.seq (.ops Z00c) (.seq (.seq (.ops Z00d) (.cond 14 (.ops Z00e) .skip)) (.seq (.ops Z00f) (.seq (.draw Z00g [10]) (.seq (.ops Z00h) (.cond 38 (.draw Zu9 [11]) .skip))))))
def Zua:List J:=[oj 50 (.bin .add 9 (ci 1)),oj 9 (.mv 50)]
def Zyj:IC:=(.seq (.ops Z00b) (.seq (.cond 10 .skip (.exit 0)) (.seq (.block 1 Zwv) (.ops Zua))))
def Zwu:IC:=(.loop Zyj)
def Zub:List J:=[oj 51 (.ld 5 true 3),oj 52 (.call 155 [51]),on_ (.st 5 2 52)]
def d122:FnD:=⟨53,[.cell 2 5 true],(.seq (.ops Z008) (.seq (.ops Z009) (.seq (.seq (.ops Z00a) (.block 0 Zwu)) (.seq (.ops Zub) .ret))))⟩
theorem Z0d4:okF Tryz.prog 122 d122=true:=by kernel_rfl
def Z0kh:List J:=[oj 0 (.al 82 [Z5,Z5,Z5,Z5])]
def Z0ki:List J:=[oj 5 (.bd [.ints .u8 32 (List.replicate 32 0)] [(0,1,(.const (.int .u8 26))),(1,1,(.const (.int .u8 213))),(2,1,(.const (.int .u8 37))),(3,1,(.const (.int .u8 143))),(4,1,(.const (.int .u8 96))),(5,1,(.const (.int .u8 45))),(6,1,(.const (.int .u8 86))),(7,1,(.const (.int .u8 201))),(8,1,(.const (.int .u8 178))),(9,1,(.const (.int .u8 167))),(10,1,(.const (.int .u8 37))),(11,1,(.const (.int .u8 149))),(12,1,(.const (.int .u8 96))),(13,1,(.const (.int .u8 199))),(14,1,(.const (.int .u8 44))),(15,1,(.const (.int .u8 105))),(16,1,(.const (.int .u8 92))),(17,1,(.const (.int .u8 220))),(18,1,(.const (.int .u8 214))),(19,1,(.const (.int .u8 253))),(20,1,(.const (.int .u8 49))),(21,1,(.const (.int .u8 226))),(22,1,(.const (.int .u8 164))),(23,1,(.const (.int .u8 192))),(24,1,(.const (.int .u8 254))),(25,1,(.const (.int .u8 83))),(26,1,(.const (.int .u8 110))),(27,1,(.const (.int .u8 205))),(28,1,(.const (.int .u8 211))),(29,1,(.const (.int .u8 54))),(30,1,(.const (.int .u8 105))),(31,1,(.const (.int .u8 33)))]),oj 6 (.call 122 [5]),oj 1 (.al 80 [Z5]),on_ (.st 5 1 6)]
def Z0kj:List J:=[oj 7 (.bd [.ints .u8 32 (List.replicate 32 0)] [(0,1,(.const (.int .u8 88)))]),oj 2 (.al 22 [.ints .u8 32 (List.replicate 32 0)]),on_ (.st 32 2 7)]
def Z0kk:List J:=[oj 8 (.mv (ci 0))]
def Z0kl:List J:=[oj 9 (.bin .lss 8 (ci 31))]
def Z0km:List J:=[oj 10 (.mv 8),oj 3 (.mv 10)]
def Z0kn:List J:=[oj 11 (.mv 3),oj 12 (.bin .add 11 (ci 1)),oj 13 (.ia 32 1 2 12),on_ (.st 1 13 (.const (.int .u8 102)))]
def Z0c9:IC:=(.seq (.ops Z0km) (.ops Z0kn))
def Z0ko:List J:=[oj 14 (.bin .add 8 (ci 1)),oj 8 (.mv 14)]
def Z0ct:IC:=(.seq (.ops Z0kl) (.seq (.cond 9 .skip (.exit 0)) (.seq (.block 1 Z0c9) (.ops Z0ko))))
def Z0c8:IC:=(.loop Z0ct)
def Z0kp:List J:=[oj 15 (.ld 32 true 2),oj 16 (.call 122 [15]),oj 4 (.al 80 [Z5]),on_ (.st 5 4 16)]
def Z0kq:Sch:=(.p [2] (oj 19 (.call 124 [])) (.q [0] (oj 17 (.ld 5 true 1)) (.q [1] (oj 18 (.ld 5 true 4)) (.q [3] (oj 20 (.ld 5 true 1)) (.q [4] (oj 21 (.ld 5 true 4)) (.p [5] (oj 22 (.call 92 [20,21])) (.p [6] (oj 23 (.bd [Z5,Z5,Z5,Z5] [(0,5,17),(5,5,18),(10,5,19),(15,5,22)])) (.e 7 (oe (.st 20 0 23)) .nil))))))))
def d95:FnD:=⟨24,[.cell 0 20 true],(.seq (.ops Z0kh) (.seq (.ops Z0ki) (.seq (.ops Z0kj) (.seq (.seq (.ops Z0kk) (.block 0 Z0c8)) (.seq (.ops Z0kp) (.seq (.draw Z0kq [7]) .ret))))))⟩
theorem ok95:okF Tryz.prog 95 d95=true:=by kernel_rfl
def Z0hi:List J:=[oj 1 (.bx 74 0),oj 2 (.al 82 [Z5,Z5,Z5,Z5])]
def Z0hj:Sch:=(.p [1] (oj 4 (.call 95 [])) (.q [0] (oj 3 (.ld 32 true 1)) (.p [2] (oj 5 (.call 94 [3,4])) (.e 3 (oe (.st 20 2 5)) .nil))))
def d51:FnD:=⟨6,[.cell 2 20 true],(.seq (.ops Z0hi) (.seq (.draw Z0hj [3]) .ret))⟩
theorem ok51:okF Tryz.prog 51 d51=true:=by kernel_rfl
def Z04o:List J:=[oj 4 (.mv (cu 0)),oj 5 (.mv (.const (.bool false)))]
def Z04p:List J:=[oj 6 (.mv (cu 0))]
def Z04q:List J:=[oj 10 (.mv 0),oj 11 (.mv 1),oj 12 (.call 203 [10,11]),oj 7 (.mv 12)]
def Z04r:List J:=[oj 13 (.mv 7),oj 14 (.len 13),oj 15 (.mv (ci 0))]
def Z04s:List J:=[oj 16 (.bin .lss 15 14)]
def Z04t:List J:=[oj 17 (.mv 15),oj 18 (.ias 1 13 15),oj 19 (.ld 1 false 18),oj 8 (.mv 17),oj 9 (.mv 19)]
def Z04u:List J:=[oj 20 (.mv 6),oj 21 (.mv 9),oj 22 (.conv .u64 21),oj 23 (.mv 8),oj 24 (.bin .mul (ci 8) 23),oj 25 (.bin .shl 22 24),oj 26 (.bin .or 20 25),oj 6 (.mv 26)]
def Zxq:IC:=(.seq (.ops Z04t) (.ops Z04u))
def Z04v:List J:=[oj 27 (.bin .add 15 (ci 1)),oj 15 (.mv 27)]
def Zyy:IC:=(.seq (.ops Z04s) (.seq (.cond 16 .skip (.exit 0)) (.seq (.block 1 Zxq) (.ops Z04v))))
def Zxp:IC:=(.loop Zyy)
def Z04w:List J:=[oj 28 (.mv 6),oj 29 (.mv 7),oj 30 (.isn true 29),oj 4 (.mv 28),oj 5 (.mv 30)]
def d160:FnD:=⟨31,[.tmp 4,.tmp 5],(.seq (.ops Z04o) (.seq (.ops Z04p) (.seq (.ops Z04q) (.seq (.seq (.ops Z04r) (.block 0 Zxp)) (.seq (.ops Z04w) .ret)))))⟩
theorem Z0du:okF Tryz.prog 160 d160=true:=by kernel_rfl
def Z081:List J:=[oj 2 (.mv (.const (.slice none 0 0)))]
def Z082:List J:=[oj 5 (.call 183 []),oj 6 (.bin .quo 5 (ci 8)),oj 7 (.mks 5 1 [.one (.int .u8 0)] 6 6),oj 3 (.mv 7)]
def Z083:List J:=[oj 8 (.mv 3),oj 9 (.len 8),oj 10 (.mv (ci 0))]
def Z084:List J:=[oj 11 (.bin .lss 10 9)]
def Z085:List J:=[oj 12 (.mv 10),oj 4 (.mv 12)]
def Z086:List J:=[oj 13 (.mv 3),oj 14 (.mv 4),oj 15 (.mv 0),oj 16 (.conv .u8 15),oj 17 (.ias 1 13 14),on_ (.st 1 17 16)]
def Z087:List J:=[oj 18 (.mv 0),oj 19 (.bin .shr 18 (cu 8)),oj 0 (.mv 19)]
def Zyc:IC:=(.seq (.ops Z085) (.seq (.ops Z086) (.ops Z087)))
def Z088:List J:=[oj 20 (.bin .add 10 (ci 1)),oj 10 (.mv 20)]
def Zz9:IC:=(.seq (.ops Z084) (.seq (.cond 11 .skip (.exit 0)) (.seq (.block 1 Zyc) (.ops Z088))))
def Zyb:IC:=(.loop Zz9)
def Z089:List J:=[oj 21 (.mv 3),oj 2 (.mv 21)]
def d204:FnD:=⟨22,[.tmp 2],(.seq (.ops Z081) (.seq (.ops Z082) (.seq (.seq (.ops Z083) (.block 0 Zyb)) (.seq (.ops Z089) .ret))))⟩
theorem Z0ef:okF Tryz.prog 204 d204=true:=by kernel_rfl
def Z04x:List J:=[oj 1 (.bx 162 0),oj 2 (.al 74 [.ints .u8 32 (List.replicate 32 0)])]
def Z04y:List J:=[oj 3 (.al 74 [.ints .u8 32 (List.replicate 32 0)])]
def Z04z:List J:=[oj 6 (.ld 4 true 1),oj 7 (.mv (ci 0))]
def Z050:List J:=[oj 8 (.bin .lss 7 (ci 4))]
def Z051:List J:=[oj 9 (.mv 7),oj 10 (.idx 4 1 false 6 7),oj 4 (.mv 9),oj 5 (.mv 10)]
def Z052:Sch:=(.p [0] (oj 11 (.mv 4)) (.p [1] (oj 12 (.bin .mul (ci 8) 11)) (.p [2] (oj 13 (.sla 32 1 3 (some 12) none none)) (.p [3] (oj 14 (.mv 5)) (.e 4 (oi 15 (.call 204 [14])) (.e 5 (oi 16 (.cpy 1 13 15)) .nil))))))
def Zxs:IC:=(.seq (.ops Z051) (.draw Z052 [5]))
def Z053:List J:=[oj 17 (.bin .add 7 (ci 1)),oj 7 (.mv 17)]
def Zyz:IC:=(.seq (.ops Z050) (.seq (.cond 8 .skip (.exit 0)) (.seq (.block 1 Zxs) (.ops Z053))))
def Zxr:IC:=(.loop Zyz)
def Z054:List J:=[oj 18 (.ld 32 true 3),on_ (.st 32 2 18)]
def d161:FnD:=⟨19,[.cell 2 32 true],(.seq (.ops Z04x) (.seq (.ops Z04y) (.seq (.seq (.ops Z04z) (.block 0 Zxr)) (.seq (.ops Z054) .ret))))⟩
theorem Z0dv:okF Tryz.prog 161 d161=true:=by kernel_rfl
def Z01i:List J:=[oj 2 (.bx 162 0),oj 3 (.bx 162 1),oj 4 (.al 162 [.ints .u64 4 (List.replicate 4 0)]),oj 5 (.mv (cu 0))]
def Z01j:List J:=[oj 6 (.mv (cu 0))]
def Z01k:List J:=[oj 8 (.mv (ci 0))]
def Z01l:List J:=[oj 9 (.bin .lss 8 (ci 4))]
def Z01m:List J:=[oj 10 (.mv 8),oj 7 (.mv 10)]
def Z01n:Sch:=(.p [0] (oj 12 (.mv 7)) (.p [1] (oj 13 (.mv 7)) (.p [2] (oj 14 (.ia 4 1 2 13)) (.p [4] (oj 16 (.mv 7)) (.p [5] (oj 17 (.ia 4 1 3 16)) (.p [7] (oj 19 (.mv 6)) (.q [3] (oj 15 (.ld 1 false 14)) (.q [6] (oj 18 (.ld 1 false 17)) (.p [8] (oj 20 (.xcall 190 [15,18,19])) (.p [9] (oj 11 (.mv 20)) (.p [10] (oj 21 (.ext 11 0)) (.p [11] (oj 22 (.ext 11 1)) (.p [12] (oj 23 (.ia 4 1 2 12)) (.e 13 (oe (.st 1 23 21)) (.p [14] (oj 6 (.mv 22)) .nil)))))))))))))))
def Zx2:IC:=(.seq (.ops Z01m) (.draw Z01n [13]))
def Z01o:List J:=[oj 24 (.bin .add 8 (ci 1)),oj 8 (.mv 24)]
def Zym:IC:=(.seq (.ops Z01l) (.seq (.cond 9 .skip (.exit 0)) (.seq (.block 1 Zx2) (.ops Z01o))))
def Zx1:IC:=(.loop Zym)
def Z01p:List J:=[oj 25 (.ld 4 true 2),oj 26 (.mv 6),on_ (.st 4 4 25),oj 5 (.mv 26)]
def d131:FnD:=⟨27,[.cell 4 4 true,.tmp 5],(.seq (.ops Z01i) (.seq (.ops Z01j) (.seq (.seq (.ops Z01k) (.block 0 Zx1)) (.seq (.ops Z01p) .ret))))⟩
theorem Z0dd:okF Tryz.prog 131 d131=true:=by kernel_rfl
def Z05p:List J:=[oj 2 (.bx 162 0),oj 3 (.bx 162 1),oj 4 (.al 162 [.ints .u64 4 (List.replicate 4 0)]),oj 5 (.mv (cu 0))]
def Z05q:List J:=[oj 6 (.mv (cu 0))]
def Z05r:List J:=[oj 8 (.mv (ci 0))]
def Z05s:List J:=[oj 9 (.bin .lss 8 (ci 4))]
def Z05t:List J:=[oj 10 (.mv 8),oj 7 (.mv 10)]
def Z05u:Sch:=(.p [0] (oj 12 (.mv 7)) (.p [1] (oj 13 (.mv 7)) (.p [2] (oj 14 (.ia 4 1 2 13)) (.p [4] (oj 16 (.mv 7)) (.p [5] (oj 17 (.ia 4 1 3 16)) (.p [7] (oj 19 (.mv 6)) (.q [3] (oj 15 (.ld 1 false 14)) (.q [6] (oj 18 (.ld 1 false 17)) (.p [8] (oj 20 (.xcall 158 [15,18,19])) (.p [9] (oj 11 (.mv 20)) (.p [10] (oj 21 (.ext 11 0)) (.p [11] (oj 22 (.ext 11 1)) (.p [12] (oj 23 (.ia 4 1 2 12)) (.e 13 (oe (.st 1 23 21)) (.p [14] (oj 6 (.mv 22)) .nil)))))))))))))))
def Zxw:IC:=(.seq (.ops Z05t) (.draw Z05u [13]))
def Z05v:List J:=[oj 24 (.bin .add 8 (ci 1)),oj 8 (.mv 24)]
def Zz1:IC:=(.seq (.ops Z05s) (.seq (.cond 9 .skip (.exit 0)) (.seq (.block 1 Zxw) (.ops Z05v))))
def Zxv:IC:=(.loop Zz1)
def Z05w:List J:=[oj 25 (.ld 4 true 2),oj 26 (.mv 6),on_ (.st 4 4 25),oj 5 (.mv 26)]
def d165:FnD:=⟨27,[.cell 4 4 true,.tmp 5],(.seq (.ops Z05p) (.seq (.ops Z05q) (.seq (.seq (.ops Z05r) (.block 0 Zxv)) (.seq (.ops Z05w) .ret))))⟩
theorem Z0dz:okF Tryz.prog 165 d165=true:=by kernel_rfl
def Z05z:List J:=[oj 1 (.bx 162 0),oj 2 (.al 162 [.ints .u64 4 (List.replicate 4 0)])]
def Z060:List J:=[oj 3 (.mv (ci 3))]
def Z061:List J:=[oj 4 (.mv 3),oj 5 (.bin .geq 4 (ci 0))]
def Z063:Sch:=(.p [0] (oj 8 (.mv 3)) (.p [1] (oj 9 (.ia 4 1 1 8)) (.p [3] (oj 11 (.mv 3)) (.p [4] (oj 12 (.ia 4 1 (.global 1) 11)) (.q [2] (oj 10 (.ld 1 false 9)) (.q [5] (oj 13 (.ld 1 false 12)) (.p [6] (oj 14 (.bin .lss 10 13)) .nil)))))))
def Z064:Sch:=(.p [0] (oj 15 (.mv 3)) (.p [1] (oj 16 (.ia 4 1 1 15)) (.p [3] (oj 18 (.mv 3)) (.p [4] (oj 19 (.ia 4 1 (.global 1) 18)) (.q [2] (oj 17 (.ld 1 false 16)) (.q [5] (oj 20 (.ld 1 false 19)) (.p [6] (oj 21 (.bin .gtr 17 20)) .nil)))))))
def Zy0:IC:=(.seq (.seq (.draw Z063 []) (.cond 14 (.exit 0) .skip)) (.seq (.draw Z064 []) (.cond 21 (.exit 2) .skip)))
def Z062:List J:=[oj 6 (.mv 3),oj 7 (.bin .sub 6 (ci 1)),oj 3 (.mv 7)]
def Zz3:IC:=(.seq (.seq (.ops Z061) (.cond 5 .skip (.exit 2))) (.seq (.block 3 Zy0) (.ops Z062)))
def Zxz:IC:=(.loop Zz3)
def Z065:List J:=[oj 23 (.ld 4 true 1),oj 24 (.ld 4 true (.global 1)),oj 25 (.call 131 [23,24]),oj 22 (.mv 25),oj 26 (.ext 22 0),oj 27 (.ext 22 1),on_ (.st 4 1 26)]
def Zxy:IC:=(.seq (.seq (.ops Z060) (.block 2 Zxz)) (.ops Z065))
def Zz2:IC:=(.block 1 Zxy)
def Zxx:IC:=(.loop Zz2)
def Z066:List J:=[oj 28 (.ld 4 true 1),on_ (.st 4 2 28)]
def d167:FnD:=⟨29,[.cell 2 4 true],(.seq (.ops Z05z) (.scope (.seq .lbl (.seq (.block 0 Zxx) (.seq (.ops Z066) .ret)))))⟩
theorem Z0e1:okF Tryz.prog 167 d167=true:=by kernel_rfl
def Z067:List J:=[oj 4 (.mv (.const (.slice none 0 0)))]
def Z068:List J:=[oj 14 (.mv 0),oj 15 (.len 14),oj 16 (.mv 1),oj 17 (.len 16),oj 18 (.bin .add 15 17),oj 19 (.mks 78 8 [.one (.int .u64 0)] 18 18),oj 5 (.mv 19)]
def Z069:List J:=[oj 20 (.mv 0),oj 21 (.len 20),oj 22 (.mv (ci 0))]
def Z06a:List J:=[oj 23 (.bin .lss 22 21)]
def Z06b:List J:=[oj 24 (.mv 22),oj 25 (.ias 1 20 22),oj 26 (.ld 1 false 25),oj 6 (.mv 24),oj 7 (.mv 26)]
def Z06c:List J:=[oj 8 (.mv (cu 0))]
def Z06d:List J:=[oj 27 (.mv 1),oj 28 (.len 27),oj 29 (.mv (ci 0))]
def Z06e:List J:=[oj 30 (.bin .lss 29 28)]
def Z06f:List J:=[oj 31 (.mv 29),oj 32 (.ias 1 27 29),oj 33 (.ld 1 false 32),oj 9 (.mv 31),oj 10 (.mv 33)]
def Z06g:List J:=[oj 35 (.mv 7),oj 36 (.mv 10),oj 37 (.call 200 [35,36]),oj 34 (.mv 37),oj 38 (.ext 34 0),oj 39 (.ext 34 1),oj 11 (.mv 38),oj 12 (.mv 39)]
def Zuw:List J:=[oj 41 (.mv 12),oj 42 (.mv 5),oj 43 (.mv 6),oj 44 (.mv 9),oj 45 (.bin .add 43 44),oj 46 (.ias 1 42 45),oj 47 (.ld 1 false 46),oj 48 (.xcall 158 [41,47,(cu 0)]),oj 40 (.mv 48),oj 49 (.ext 40 0),oj 50 (.ext 40 1),oj 12 (.mv 49),oj 13 (.mv 50)]
def Zux:List J:=[oj 51 (.mv 11),oj 52 (.mv 13),oj 53 (.bin .add 51 52),oj 11 (.mv 53)]
def Zuy:List J:=[oj 55 (.mv 12),oj 56 (.mv 8),oj 57 (.xcall 158 [55,56,(cu 0)]),oj 54 (.mv 57),oj 58 (.ext 54 0),oj 59 (.ext 54 1),oj 12 (.mv 58),oj 13 (.mv 59)]
def Zuz:List J:=[oj 60 (.mv 5),oj 61 (.mv 6),oj 62 (.mv 9),oj 63 (.bin .add 61 62),oj 64 (.mv 12),oj 65 (.mv 11),oj 66 (.mv 13),oj 67 (.bin .add 65 66),oj 68 (.ias 1 60 63),on_ (.st 1 68 64),oj 8 (.mv 67)]
def Zy4:IC:=(.seq (.ops Z06f) (.seq (.ops Z06g) (.seq (.ops Zuw) (.seq (.ops Zux) (.seq (.ops Zuy) (.ops Zuz))))))
def Zv0:List J:=[oj 69 (.bin .add 29 (ci 1)),oj 29 (.mv 69)]
def Zz5:IC:=(.seq (.ops Z06e) (.seq (.cond 30 .skip (.exit 2)) (.seq (.block 3 Zy4) (.ops Zv0))))
def Zy3:IC:=(.loop Zz5)
def Zv1:List J:=[oj 70 (.mv 5),oj 71 (.mv 6),oj 72 (.mv 1),oj 73 (.len 72),oj 74 (.bin .add 71 73),oj 75 (.mv 8),oj 76 (.ias 1 70 74),on_ (.st 1 76 75)]
def Zy2:IC:=(.seq (.ops Z06b) (.seq (.ops Z06c) (.seq (.seq (.ops Z06d) (.block 2 Zy3)) (.ops Zv1))))
def Zv2:List J:=[oj 77 (.bin .add 22 (ci 1)),oj 22 (.mv 77)]
def Zz4:IC:=(.seq (.ops Z06a) (.seq (.cond 23 .skip (.exit 0)) (.seq (.block 1 Zy2) (.ops Zv2))))
def Zy1:IC:=(.loop Zz4)
def Zv3:List J:=[oj 78 (.mv 5),oj 4 (.mv 78)]
def d168:FnD:=⟨79,[.tmp 4],(.seq (.ops Z067) (.seq (.ops Z068) (.seq (.seq (.ops Z069) (.block 0 Zy1)) (.seq (.ops Zv3) .ret))))⟩
theorem Z0e2:okF Tryz.prog 168 d168=true:=by kernel_rfl
def Z08a:List J:=[oj 2 (.al 162 [.ints .u64 4 (List.replicate 4 0)]),oj 3 (.mv (.const (.slice none 0 0)))]
def Z08b:List J:=[oj 4 (.al 162 [.ints .u64 4 (List.replicate 4 0)])]
def Z08c:List J:=[oj 8 (.sla 4 1 4 none none none),oj 9 (.mv 0),oj 10 (.cpy 1 8 9)]
def Z08d:List J:=[oj 11 (.ia 4 1 4 (ci 3)),oj 12 (.ld 1 false 11),oj 13 (.bin .and 12 (cu 1152921504606846975)),oj 14 (.ia 4 1 4 (ci 3)),on_ (.st 1 14 13)]
def Z08e:List J:=[oj 5 (.mv (.const (.slice none 0 0)))]
def Z08f:List J:=[oj 6 (.mv (ci 3))]
def Z08g:List J:=[oj 15 (.mv 6),oj 16 (.mv 0),oj 17 (.len 16),oj 18 (.bin .lss 15 17)]
def Z08i:List J:=[oj 21 (.mv 0),oj 22 (.mv 6),oj 23 (.ias 1 21 22),oj 24 (.ld 1 false 23),oj 25 (.bin .shr 24 (cu 60)),oj 7 (.mv 25)]
def Z08j:List J:=[oj 26 (.mv 6),oj 27 (.bin .add 26 (ci 1)),oj 28 (.mv 0),oj 29 (.len 28),oj 30 (.bin .lss 27 29)]
def Zv6:List J:=[oj 31 (.mv 7),oj 32 (.mv 0),oj 33 (.mv 6),oj 34 (.bin .add 33 (ci 1)),oj 35 (.ias 1 32 34),oj 36 (.ld 1 false 35),oj 37 (.bin .shl 36 (cu 4)),oj 38 (.bin .or 31 37),oj 7 (.mv 38)]
def Zv7:List J:=[oj 39 (.mv 5),oj 40 (.mv 7),oj 41 (.bs 78 1 1 [.one (.int .u64 0)] [(0,1,40)]),oj 42 (.app 78 1 8 [.one (.int .u64 0)] 39 41),oj 5 (.mv 42)]
def Zye:IC:=(.seq (.ops Z08i) (.seq (.seq (.ops Z08j) (.cond 30 (.ops Zv6) .skip)) (.ops Zv7)))
def Z08h:List J:=[oj 19 (.mv 6),oj 20 (.bin .add 19 (ci 1)),oj 6 (.mv 20)]
def Zza:IC:=(.seq (.seq (.ops Z08g) (.cond 18 .skip (.exit 0))) (.seq (.block 1 Zye) (.ops Z08h)))
def Zyd:IC:=(.loop Zza)
def Zv8:List J:=[oj 43 (.ld 4 true 4),oj 44 (.mv 5),on_ (.st 4 2 43),oj 3 (.mv 44)]
def d205:FnD:=⟨45,[.cell 2 4 true,.tmp 3],(.seq (.ops Z08a) (.seq (.ops Z08b) (.seq (.ops Z08c) (.seq (.ops Z08d) (.seq (.ops Z08e) (.seq (.seq (.ops Z08f) (.block 0 Zyd)) (.seq (.ops Zv8) .ret)))))))⟩
theorem Z0eg:okF Tryz.prog 205 d205=true:=by kernel_rfl
def Z08k:List J:=[oj 0 (.mv (.const (.slice none 0 0)))]
def Z08l:List J:=[oj 1 (.bs 78 2 1 [.one (.int .u64 0),.one (.int .u64 0)] [(0,1,(cu 6346243789798364141)),(1,1,(cu 1503914060200516822))]),oj 0 (.mv 1)]
def d206:FnD:=⟨2,[.tmp 0],(.seq (.ops Z08k) (.seq (.ops Z08l) .ret))⟩
theorem Z0eh:okF Tryz.prog 206 d206=true:=by kernel_rfl
def Z055:List J:=[oj 2 (.al 162 [.ints .u64 4 (List.replicate 4 0)])]
def Z056:List J:=[oj 3 (.al 229 [.rows 4 2 (fun _=>cells [.ints .u64 4 (List.replicate 4 0)])])]
def Z057:List J:=[oj 10 (.mv (ci 0))]
def Z058:List J:=[oj 11 (.bin .lss 10 (ci 4))]
def Z059:List J:=[oj 12 (.mv 10),oj 4 (.mv 12)]
def Z05a:List J:=[oj 5 (.al 162 [.ints .u64 4 (List.replicate 4 0)])]
def Z05b:List J:=[oj 14 (.mv 0),oj 15 (.call 205 [14]),oj 13 (.mv 15),oj 16 (.ext 13 0),oj 17 (.ext 13 1),on_ (.st 4 5 16),oj 0 (.mv 17)]
def Z05c:Sch:=(.p [0] (oj 19 (.mv 4)) (.p [1] (oj 20 (.bin .rem 19 (ci 2))) (.p [2] (oj 21 (.mv 4)) (.p [3] (oj 22 (.bin .rem 21 (ci 2))) (.p [4] (oj 23 (.ia 2 4 3 22)) (.q [5] (oj 24 (.ld 4 true 23)) (.q [6] (oj 25 (.ld 4 true 5)) (.p [7] (oj 26 (.call 165 [24,25])) (.p [8] (oj 18 (.mv 26)) (.p [9] (oj 27 (.ext 18 0)) (.p [10] (oj 28 (.ext 18 1)) (.p [11] (oj 29 (.ia 2 4 3 20)) (.e 12 (oe (.st 4 29 27)) .nil)))))))))))))
def Z05d:List J:=[oj 30 (.mv 0),oj 31 (.call 206 []),oj 32 (.call 168 [30,31]),oj 0 (.mv 32)]
def Zxu:IC:=(.seq (.ops Z059) (.seq (.ops Z05a) (.seq (.ops Z05b) (.seq (.draw Z05c [12]) (.ops Z05d)))))
def Z05e:List J:=[oj 33 (.bin .add 10 (ci 1)),oj 10 (.mv 33)]
def Zz0:IC:=(.seq (.ops Z058) (.seq (.cond 11 .skip (.exit 0)) (.seq (.block 1 Zxu) (.ops Z05e))))
def Zxt:IC:=(.loop Zz0)
def Zus:List J:=[oj 35 (.ld 4 true (.global 1)),oj 36 (.ld 4 true (.global 1)),oj 37 (.call 165 [35,36]),oj 34 (.mv 37),oj 38 (.ext 34 0),oj 39 (.ext 34 1),oj 6 (.al 162 [.ints .u64 4 (List.replicate 4 0)]),on_ (.st 4 6 38),oj 7 (.mv 39)]
def Zut:List J:=[oj 41 (.ia 2 4 3 (ci 0)),oj 42 (.ld 4 true 41),oj 43 (.ld 4 true 6),oj 44 (.call 165 [42,43]),oj 40 (.mv 44),oj 45 (.ext 40 0),oj 46 (.ext 40 1),oj 8 (.al 162 [.ints .u64 4 (List.replicate 4 0)]),on_ (.st 4 8 45),oj 9 (.mv 46)]
def Zuu:List J:=[oj 48 (.ld 4 true 8),oj 49 (.ia 2 4 3 (ci 1)),oj 50 (.ld 4 true 49),oj 51 (.call 131 [48,50]),oj 47 (.mv 51),oj 52 (.ext 47 0),oj 53 (.ext 47 1),on_ (.st 4 8 52)]
def Zuv:List J:=[oj 54 (.ld 4 true 8),oj 55 (.call 167 [54]),on_ (.st 4 2 55)]
def d162:FnD:=⟨56,[.cell 2 4 true],(.seq (.ops Z055) (.seq (.ops Z056) (.seq (.seq (.ops Z057) (.block 0 Zxt)) (.seq (.ops Zus) (.seq (.ops Zut) (.seq (.ops Zuu) (.seq (.ops Zuv) .ret)))))))⟩
theorem Z0dw:okF Tryz.prog 162 d162=true:=by kernel_rfl
def Z0l1:List J:=[oj 1 (.bx 94 0),oj 2 (.al 74 [.ints .u8 32 (List.replicate 32 0)])]
def Z0l2:List J:=[oj 3 (.al 144 [.ints .u64 8 (List.replicate 8 0)])]
def Z0l3:List J:=[oj 5 (.mv (ci 0))]
def Z0l4:List J:=[oj 6 (.bin .lss 5 (ci 8))]
def Z0l5:List J:=[oj 7 (.mv 5),oj 4 (.mv 7)]
def Z0l6:List J:=[oj 9 (.mv 4),oj 10 (.sla 64 1 1 none none none),oj 11 (.mv 4),oj 12 (.bin .mul (ci 8) 11),oj 13 (.call 160 [10,12]),oj 8 (.mv 13),oj 14 (.ext 8 0),oj 15 (.ext 8 1),oj 16 (.ia 8 1 3 9),on_ (.st 1 16 14)]
def Z0cd:IC:=(.seq (.ops Z0l5) (.ops Z0l6))
def Z0l7:List J:=[oj 17 (.bin .add 5 (ci 1)),oj 5 (.mv 17)]
def Z0cv:IC:=(.seq (.ops Z0l4) (.seq (.cond 6 .skip (.exit 0)) (.seq (.block 1 Z0cd) (.ops Z0l7))))
def Z0cc:IC:=(.loop Z0cv)
def Z0l8:List J:=[oj 18 (.sla 8 1 3 none none none),oj 19 (.call 162 [18]),oj 20 (.call 161 [19]),on_ (.st 32 2 20)]
def d98:FnD:=⟨21,[.cell 2 32 true],(.seq (.ops Z0l1) (.seq (.ops Z0l2) (.seq (.seq (.ops Z0l3) (.block 0 Z0cc)) (.seq (.ops Z0l8) .ret))))⟩
theorem ok98:okF Tryz.prog 98 d98=true:=by kernel_rfl
def Z0hk:List J:=[oj 2 (.al 74 [.ints .u8 32 (List.replicate 32 0)])]
def Z0hl:List J:=[oj 6 (.call 96 []),oj 3 (.mv 6)]
def Z0hm:List J:=[oj 7 (.mv 0),oj 8 (.len 7),oj 9 (.mv (ci 0))]
def Z0hn:List J:=[oj 10 (.bin .lss 9 8)]
def Z0ho:List J:=[oj 11 (.ias 1 7 9),oj 12 (.ld 1 false 11),oj 5 (.mv 12)]
def Z0hp:List J:=[oj 13 (.mv 3),oj 14 (.mv 5),oj 15 (.call 97 [13,14])]
def Z0bp:IC:=(.seq (.ops Z0ho) (.ops Z0hp))
def Z0hq:List J:=[oj 16 (.bin .add 9 (ci 1)),oj 9 (.mv 16)]
def Z0cj:IC:=(.seq (.ops Z0hn) (.seq (.cond 10 .skip (.exit 0)) (.seq (.block 1 Z0bp) (.ops Z0hq))))
def Z0bo:IC:=(.loop Z0cj)
def Z0hr:List J:=[oj 17 (.mv 3),oj 18 (.call 99 [17]),oj 19 (.call 98 [18]),on_ (.st 32 2 19)]
def d52:FnD:=⟨20,[.cell 2 32 true],(.seq (.ops Z0hk) (.seq (.ops Z0hl) (.seq (.seq (.ops Z0hm) (.block 0 Z0bo)) (.seq (.ops Z0hr) .ret))))⟩
theorem ok52:okF Tryz.prog 52 d52=true:=by kernel_rfl
def Z006:List J:=[oj 1 (.bx 22 0),oj 2 (.mv (.const (.bool false)))]
def Z007:Sch:=(.q [0] (oj 3 (.ld 32 true 1)) (.p [1] (oj 4 (.call 122 [3])) (.p [2] (oj 5 (.call 91 [4])) (.q [3] (oj 6 (.ld 32 true 1)) (.p [4] (oj 7 (.eqa false [(.i .u8,32)] 5 6)) (.p [5] (oj 2 (.mv 7)) .nil))))))
def d121:FnD:=⟨8,[.tmp 2],(.seq (.ops Z006) (.seq (.draw Z007 []) .ret))⟩
theorem Z0d3:okF Tryz.prog 121 d121=true:=by kernel_rfl
def Z018:List J:=[oj 1 (.bx 80 0),oj 2 (.mv (.const (.bool false)))]
def Z019:List J:=[oj 3 (.ld 5 true 1),oj 4 (.call 155 [3]),oj 5 (.bd [Z5] []),oj 6 (.eqa false [(.i .u64,5)] 4 5),oj 2 (.mv 6)]
def d129:FnD:=⟨7,[.tmp 2],(.seq (.ops Z018) (.seq (.ops Z019) .ret))⟩
theorem Z0db:okF Tryz.prog 129 d129=true:=by kernel_rfl
def Z06r:List J:=[oj 2 (.bx 80 0),oj 3 (.bx 80 1),oj 4 (.mv (.const (.bool false)))]
def Z06s:Sch:=(.q [0] (oj 5 (.ld 5 true 2)) (.p [1] (oj 6 (.call 155 [5])) (.q [2] (oj 7 (.ld 5 true 3)) (.p [3] (oj 8 (.call 155 [7])) (.p [4] (oj 9 (.eqa false [(.i .u64,5)] 6 8)) (.p [5] (oj 4 (.mv 9)) .nil))))))
def d187:FnD:=⟨10,[.tmp 4],(.seq (.ops Z06r) (.seq (.draw Z06s []) .ret))⟩
theorem Z0e5:okF Tryz.prog 187 d187=true:=by kernel_rfl
def Z06v:List J:=[oj 4 (.bx 80 1),oj 5 (.bx 80 2),oj 6 (.al 80 [Z5])]
def Z06w:List J:=[oj 7 (.mv 0)]
def Z06x:List J:=[oj 8 (.ld 5 true 4),oj 9 (.call 155 [8]),on_ (.st 5 6 9)]
def Z06y:List J:=[oj 10 (.ld 5 true 5),oj 11 (.call 155 [10]),on_ (.st 5 6 11)]
def d189:FnD:=⟨12,[.cell 6 5 true],(.seq (.ops Z06v) (.seq (.seq (.ops Z06w) (.cond 7 (.seq (.ops Z06x) .ret) .skip)) (.seq (.ops Z06y) .ret)))⟩
theorem Z0e7:okF Tryz.prog 189 d189=true:=by kernel_rfl
def Z00m:List J:=[oj 2 (.bx 80 0),oj 3 (.bx 80 1),oj 4 (.al 80 [Z5]),oj 5 (.mv (.const (.bool false)))]
def Z00n:List J:=[oj 10 (.ld 5 true 3),oj 11 (.call 129 [10])]
def Z00o:List J:=[oj 12 (.bd [Z5] []),oj 13 (.ld 5 true 2),oj 14 (.call 129 [13]),on_ (.st 5 4 12),oj 5 (.mv 14)]
def Z00p:Sch:=(.q [0] (oj 15 (.ld 5 true 3)) (.p [1] (oj 16 (.call 123 [15])) (.q [2] (oj 17 (.ld 5 true 3)) (.p [3] (oj 18 (.call 92 [16,17])) (.e 4 (oi 6 (.al 80 [Z5])) (.e 5 (oe (.st 5 6 18)) .nil))))))
def Z00q:Sch:=(.q [0] (oj 19 (.ld 5 true 2)) (.q [1] (oj 20 (.ld 5 true 6)) (.p [2] (oj 21 (.call 123 [20])) (.p [3] (oj 22 (.call 92 [19,21])) (.q [4] (oj 23 (.ld 5 true 3)) (.p [5] (oj 24 (.call 92 [22,23])) (.e 6 (oi 7 (.al 80 [Z5])) (.e 7 (oe (.st 5 7 24)) .nil))))))))
def Z00r:Sch:=(.q [0] (oj 25 (.ld 5 true 2)) (.q [1] (oj 26 (.ld 5 true 6)) (.p [2] (oj 27 (.call 92 [25,26])) (.p [4] (oj 29 (.call 154 [(.const (.int .u8 253)),(.const (.int .u8 15))])) (.q [3] (oj 28 (.ld 5 true 7)) (.p [5] (oj 30 (.call 153 [28,29])) (.p [6] (oj 31 (.call 92 [27,30])) (.e 7 (oi 8 (.al 80 [Z5])) (.e 8 (oe (.st 5 8 31)) .nil)))))))))
def Z00s:Sch:=(.q [0] (oj 32 (.ld 5 true 3)) (.q [1] (oj 33 (.ld 5 true 8)) (.p [2] (oj 34 (.call 123 [33])) (.p [3] (oj 35 (.call 92 [32,34])) (.e 4 (oi 9 (.al 80 [Z5])) (.e 5 (oe (.st 5 9 35)) .nil))))))
def Z00u:List J:=[oj 38 (.ld 5 true 9),oj 39 (.ld 5 true 2),oj 40 (.call 187 [38,39]),oj 37 (.mv 40)]
def Z00v:Sch:=(.q [0] (oj 42 (.ld 5 true 9)) (.q [1] (oj 43 (.ld 5 true 2)) (.p [2] (oj 44 (.call 130 [43])) (.p [3] (oj 45 (.call 187 [42,44])) (.p [4] (oj 41 (.mv 45)) .nil)))))
def Zuc:Sch:=(.p [1] (oj 47 (.call 188 [(cu 2)])) (.p [2] (oj 48 (.call 154 [(.const (.int .u8 251)),(.const (.int .u8 31))])) (.p [3] (oj 49 (.call 153 [47,48])) (.q [0] (oj 46 (.ld 5 true 8)) (.p [4] (oj 50 (.call 92 [46,49])) (.e 5 (oe (.st 5 8 50)) .nil))))))
def Z00t:List J:=[oj 36 (.bd [Z5] []),on_ (.st 5 4 36),oj 5 (.mv (.const (.bool false)))]
def Zww:IC:=(.seq (.ops Z00u) (.cond 37 .skip (.seq (.draw Z00v []) (.cond 41 (.draw Zuc [5]) (.seq (.ops Z00t) .ret)))))
def Zud:Sch:=(.q [0] (oj 51 (.ld 5 true 8)) (.p [1] (oj 52 (.call 93 [51])) (.q [2] (oj 53 (.ld 5 true 8)) (.p [3] (oj 54 (.call 130 [53])) (.q [4] (oj 55 (.ld 5 true 8)) (.p [5] (oj 56 (.call 189 [52,54,55])) (.e 6 (oe (.st 5 4 56)) (.p [7] (oj 5 (.mv (.const (.bool true)))) .nil))))))))
def d125:FnD:=⟨57,[.cell 4 5 true,.tmp 5],(.seq (.ops Z00m) (.seq (.seq (.ops Z00n) (.cond 11 (.seq (.ops Z00o) .ret) .skip)) (.seq (.draw Z00p [5]) (.seq (.draw Z00q [7]) (.seq (.draw Z00r [8]) (.seq (.seq (.draw Z00s [5]) (.block 0 Zww)) (.seq (.draw Zud [6]) .ret)))))))⟩
theorem Z0d7:okF Tryz.prog 125 d125=true:=by kernel_rfl
def Z016:List J:=[oj 0 (.al 80 [Z5])]
def Z017:List J:=[oj 1 (.bd [Z5] [(0,1,(cu 929955233495203)),(1,1,(cu 466365720129213)),(2,1,(cu 1662059464998953)),(3,1,(cu 2033849074728123)),(4,1,(cu 1442794654840575))]),on_ (.st 5 0 1)]
def d128:FnD:=⟨2,[.cell 0 5 true],(.seq (.ops Z016) (.seq (.ops Z017) .ret))⟩
theorem Z0da:okF Tryz.prog 128 d128=true:=by kernel_rfl
def Z0hu:List J:=[oj 1 (.bx 29 0),oj 2 (.al 82 [Z5,Z5,Z5,Z5]),oj 3 (.mv (.const (.bool false)))]
def Z0hv:List J:=[oj 10 (.ia 32 1 1 (ci 31)),oj 11 (.ld 1 false 10),oj 12 (.bin .shr 11 (cu 7)),oj 13 (.bin .eql 12 (.const (.int .u8 1))),oj 4 (.mv 13)]
def Z0hw:List J:=[oj 14 (.ia 32 1 1 (ci 31)),oj 15 (.ld 1 false 14),oj 16 (.bin .and 15 (.const (.int .u8 127))),oj 17 (.ia 32 1 1 (ci 31)),on_ (.st 1 17 16)]
def Z0hx:List J:=[oj 18 (.ld 32 true 1),oj 19 (.call 121 [18]),oj 20 (.un .not 19)]
def Z0hy:List J:=[oj 21 (.bd [Z5,Z5,Z5,Z5] []),on_ (.st 20 2 21),oj 3 (.mv (.const (.bool false)))]
def Z0hz:List J:=[oj 22 (.ld 32 true 1),oj 23 (.call 122 [22]),oj 5 (.al 80 [Z5]),on_ (.st 5 5 23)]
def Z0i0:List J:=[oj 24 (.ld 5 true 5),oj 25 (.call 123 [24]),oj 6 (.al 80 [Z5]),on_ (.st 5 6 25)]
def Z0i1:List J:=[oj 26 (.call 124 []),oj 7 (.al 80 [Z5]),on_ (.st 5 7 26)]
def Z0i2:Sch:=(.q [0] (oj 28 (.ld 5 true 6)) (.q [1] (oj 29 (.ld 5 true 7)) (.p [2] (oj 30 (.call 126 [28,29])) (.p [3] (oj 31 (.call 128 [])) (.q [4] (oj 32 (.ld 5 true 6)) (.p [5] (oj 33 (.call 92 [31,32])) (.q [6] (oj 34 (.ld 5 true 7)) (.p [7] (oj 35 (.call 127 [33,34])) (.p [8] (oj 36 (.call 125 [30,35])) (.p [9] (oj 27 (.mv 36)) (.p [10] (oj 37 (.ext 27 0)) (.p [11] (oj 38 (.ext 27 1)) (.e 12 (oi 8 (.al 80 [Z5])) (.e 13 (oe (.st 5 8 37)) (.p [14] (oj 9 (.mv 38)) .nil)))))))))))))))
def Z0i3:List J:=[oj 39 (.mv 9),oj 40 (.un .not 39),oj 41 (.mv 40),.lg true 41 47 none [.op ⟨some 42,(some (41,false)),.mv 4⟩,.op ⟨some 43,(some (41,false)),.mv 42⟩,.lg false 43 46 (some (41,false)) [.op ⟨some 44,(some (43,true)),.ld 5 true 8⟩,.op ⟨some 45,(some (43,true)),.call 129 [44]⟩] 45] 46]
def Z097:List J:=[oj 48 (.bd [Z5,Z5,Z5,Z5] []),on_ (.st 20 2 48),oj 3 (.mv (.const (.bool false)))]
def Z098:List J:=[oj 49 (.mv 4)]
def Z099:List J:=[oj 50 (.ld 5 true 8),oj 51 (.call 130 [50]),on_ (.st 5 8 51)]
def Z09a:Sch:=(.q [0] (oj 52 (.ld 5 true 8)) (.q [1] (oj 53 (.ld 5 true 5)) (.q [2] (oj 54 (.ld 5 true 7)) (.q [3] (oj 55 (.ld 5 true 8)) (.q [4] (oj 56 (.ld 5 true 5)) (.p [5] (oj 57 (.call 92 [55,56])) (.p [6] (oj 58 (.bd [Z5,Z5,Z5,Z5] [(0,5,52),(5,5,53),(10,5,54),(15,5,57)])) (.e 7 (oe (.st 20 2 58)) (.p [8] (oj 3 (.mv (.const (.bool true)))) .nil)))))))))
def d66:FnD:=⟨59,[.cell 2 20 true,.tmp 3],(.seq (.ops Z0hu) (.seq (.ops Z0hv) (.seq (.ops Z0hw) (.seq (.seq (.ops Z0hx) (.cond 20 (.seq (.ops Z0hy) .ret) .skip)) (.seq (.ops Z0hz) (.seq (.ops Z0i0) (.seq (.ops Z0i1) (.seq (.draw Z0i2 [13]) (.seq (.seq (.ops Z0i3) (.cond 47 (.seq (.ops Z097) .ret) .skip)) (.seq (.seq (.ops Z098) (.cond 49 (.ops Z099) .skip)) (.seq (.draw Z09a [7]) .ret)))))))))))⟩
theorem ok66:okF Tryz.prog 66 d66=true:=by kernel_rfl
def Z01q:List J:=[oj 1 (.bx 74 0),oj 2 (.al 162 [.ints .u64 4 (List.replicate 4 0)])]
def Z01r:List J:=[oj 3 (.al 162 [.ints .u64 4 (List.replicate 4 0)])]
def Z01s:List J:=[oj 5 (.mv (ci 0))]
def Z01t:List J:=[oj 6 (.bin .lss 5 (ci 4))]
def Z01u:List J:=[oj 7 (.mv 5),oj 4 (.mv 7)]
def Z01v:List J:=[oj 9 (.mv 4),oj 10 (.sla 32 1 1 none none none),oj 11 (.mv 4),oj 12 (.bin .mul (ci 8) 11),oj 13 (.call 160 [10,12]),oj 8 (.mv 13),oj 14 (.ext 8 0),oj 15 (.ext 8 1),oj 16 (.ia 4 1 3 9),on_ (.st 1 16 14)]
def Zx4:IC:=(.seq (.ops Z01u) (.ops Z01v))
def Z01w:List J:=[oj 17 (.bin .add 5 (ci 1)),oj 5 (.mv 17)]
def Zyn:IC:=(.seq (.ops Z01t) (.seq (.cond 6 .skip (.exit 0)) (.seq (.block 1 Zx4) (.ops Z01w))))
def Zx3:IC:=(.loop Zyn)
def Z01x:List J:=[oj 18 (.ld 4 true 3),on_ (.st 4 2 18)]
def d132:FnD:=⟨19,[.cell 2 4 true],(.seq (.ops Z01q) (.seq (.ops Z01r) (.seq (.seq (.ops Z01s) (.block 0 Zx3)) (.seq (.ops Z01x) .ret))))⟩
theorem Z0de:okF Tryz.prog 132 d132=true:=by kernel_rfl
def Z0i4:List J:=[oj 1 (.bx 74 0),oj 2 (.mv (.const (.bool false)))]
def Z0i5:Sch:=(.q [0] (oj 6 (.ld 32 true 1)) (.p [1] (oj 7 (.call 132 [6])) (.q [2] (oj 8 (.ld 4 true (.global 1))) (.p [3] (oj 9 (.call 131 [7,8])) (.p [4] (oj 5 (.mv 9)) (.p [5] (oj 10 (.ext 5 0)) (.p [6] (oj 11 (.ext 5 1)) (.e 7 (oi 3 (.al 162 [.ints .u64 4 (List.replicate 4 0)])) (.e 8 (oe (.st 4 3 10)) (.p [9] (oj 4 (.mv 11)) .nil))))))))))
def Z0i6:List J:=[oj 12 (.mv 4),oj 13 (.bin .eql 12 (cu 1)),oj 2 (.mv 13)]
def d67:FnD:=⟨14,[.tmp 2],(.seq (.ops Z0i4) (.seq (.draw Z0i5 [8]) (.seq (.ops Z0i6) .ret)))⟩
theorem ok67:okF Tryz.prog 67 d67=true:=by kernel_rfl
def Z0i7:List J:=[oj 3 (.bx 74 0),oj 4 (.bx 82 1),oj 5 (.bx 74 2),oj 6 (.al 82 [Z5,Z5,Z5,Z5])]
def Z0i8:List J:=[oj 12 (.call 95 []),oj 7 (.al 82 [Z5,Z5,Z5,Z5]),on_ (.st 20 7 12)]
def Z0i9:Sch:=(.q [0] (oj 13 (.ld 20 true 4)) (.p [1] (oj 14 (.call 133 [13])) (.q [2] (oj 15 (.ld 20 true 7)) (.p [3] (oj 16 (.call 133 [15])) (.two 4 (oi 8 (.al 166 [.rows 20 16 (fun _=>cells [Z5,Z5,Z5,Z5])])) (.e 5 (oi 9 (.al 166 [.rows 20 16 (fun _=>cells [Z5,Z5,Z5,Z5])])) (.e 6 (oe (.st 320 8 14)) (.e 7 (oe (.st 320 9 16)) .nil)))
  5 ⟨some 9,none,.al 166 [.rows 20 16 (fun _=>cells [Z5,Z5,Z5,Z5])]⟩ (.e 4 (oi 8 (.al 166 [.rows 20 16 (fun _=>cells [Z5,Z5,Z5,Z5])])) (.e 6 (oe (.st 320 8 14)) (.e 7 (oe (.st 320 9 16)) .nil))))))))
def Z0ia:List J:=[oj 17 (.call 134 []),oj 10 (.al 82 [Z5,Z5,Z5,Z5]),on_ (.st 20 10 17)]
def Z0ib:List J:=[oj 18 (.mv (ci 0))]
def Z0ic:List J:=[oj 19 (.bin .lss 18 (ci 64))]
def Z0id:List J:=[oj 20 (.mv 18),oj 11 (.mv 20)]
def Z0ie:List J:=[oj 21 (.mv (ci 0))]
def Z0if:List J:=[oj 22 (.bin .lss 21 (ci 4))]
def Z0ig:List J:=[oj 23 (.ld 20 true 10),oj 24 (.call 135 [23]),on_ (.st 20 10 24)]
def Z0bt:IC:=(.ops Z0ig)
def Z09b:List J:=[oj 25 (.bin .add 21 (ci 1)),oj 21 (.mv 25)]
def Z0cl:IC:=(.seq (.ops Z0if) (.seq (.cond 22 .skip (.exit 2)) (.seq (.block 3 Z0bt) (.ops Z09b))))
def Z0bs:IC:=(.loop Z0cl)
def Z09c:Sch:=(.p [2] (oj 28 (.mv 11)) (.p [8] (oj 34 (.mv 11)) (.q [0] (oj 26 (.ld 20 true 10)) (.q [1] (oj 27 (.ld 32 true 3)) (.p [3] (oj 29 (.call 137 [27,28])) (.p [4] (oj 30 (.ia 16 20 8 29)) (.q [5] (oj 31 (.ld 20 true 30)) (.p [6] (oj 32 (.call 136 [26,31])) (.q [7] (oj 33 (.ld 32 true 5)) (.p [9] (oj 35 (.call 137 [33,34])) (.p [10] (oj 36 (.ia 16 20 9 35)) (.q [11] (oj 37 (.ld 20 true 36)) (.p [12] (oj 38 (.call 136 [32,37])) (.e 13 (oe (.st 20 10 38)) .nil))))))))))))))
def Z0br:IC:=(.seq (.ops Z0id) (.seq (.seq (.ops Z0ie) (.block 2 Z0bs)) (.draw Z09c [13])))
def Z09d:List J:=[oj 39 (.bin .add 18 (ci 1)),oj 18 (.mv 39)]
def Z0ck:IC:=(.seq (.ops Z0ic) (.seq (.cond 19 .skip (.exit 0)) (.seq (.block 1 Z0br) (.ops Z09d))))
def Z0bq:IC:=(.loop Z0ck)
def Z09e:List J:=[oj 40 (.ld 20 true 10),on_ (.st 20 6 40)]
def d68:FnD:=⟨41,[.cell 6 20 true],(.seq (.ops Z0i7) (.seq (.ops Z0i8) (.seq (.draw Z0i9 [6,7]) (.seq (.ops Z0ia) (.seq (.seq (.ops Z0ib) (.block 0 Z0bq)) (.seq (.ops Z09e) .ret))))))⟩
theorem ok68:okF Tryz.prog 68 d68=true:=by kernel_rfl
def Z0ih:List J:=[oj 1 (.bx 82 0),oj 2 (.al 82 [Z5,Z5,Z5,Z5])]
def Z0ii:Sch:=(.p [0] (oj 3 (.fa 0 1)) (.p [3] (oj 6 (.fa 5 1)) (.p [5] (oj 8 (.fa 10 1)) (.p [7] (oj 10 (.fa 15 1)) (.q [1] (oj 4 (.ld 5 true 3)) (.p [2] (oj 5 (.call 130 [4])) (.q [4] (oj 7 (.ld 5 true 6)) (.q [6] (oj 9 (.ld 5 true 8)) (.q [8] (oj 11 (.ld 5 true 10)) (.p [9] (oj 12 (.call 130 [11])) (.p [10] (oj 13 (.bd [Z5,Z5,Z5,Z5] [(0,5,5),(5,5,7),(10,5,9),(15,5,12)])) (.e 11 (oe (.st 20 2 13)) .nil))))))))))))
def d69:FnD:=⟨14,[.cell 2 20 true],(.seq (.ops Z0ih) (.seq (.draw Z0ii [11]) .ret))⟩
theorem ok69:okF Tryz.prog 69 d69=true:=by kernel_rfl
def Z0f8:List J:=[oj 3 (.bx 29 0),oj 5 (.bx 27 2),oj 6 (.mv (.const (.bool false)))]
def Z0f9:List J:=[oj 13 (.ld 32 true 3),oj 14 (.call 66 [13]),oj 12 (.mv 14),oj 15 (.ext 12 0),oj 16 (.ext 12 1),oj 7 (.al 82 [Z5,Z5,Z5,Z5]),on_ (.st 20 7 15),oj 8 (.mv 16)]
def Z0fa:List J:=[oj 17 (.sla 64 1 5 (some (ci 32)) none none),oj 18 (.s2a 32 17),oj 19 (.ld 32 true 18),oj 9 (.al 74 [.ints .u8 32 (List.replicate 32 0)]),on_ (.st 32 9 19)]
def Z0fb:List J:=[oj 20 (.mv 8),oj 21 (.un .not 20),oj 22 (.mv 21),.lg true 22 26 none [.op ⟨some 23,(some (22,false)),.ld 32 true 9⟩,.op ⟨some 24,(some (22,false)),.call 67 [23]⟩,.op ⟨some 25,(some (22,false)),.un .not 24⟩] 25]
def Z0fc:List J:=[oj 6 (.mv (.const (.bool false)))]
def Z0fd:Sch:=(.p [0] (oj 27 (.sla 64 1 5 none (some (ci 32)) none)) (.p [1] (oj 28 (.sla 32 1 3 none none none)) (.p [2] (oj 29 (.mv 1)) (.two 3 (oi 30 (.bs 24 3 1 [.one (.slice none 0 0),.one (.slice none 0 0),.one (.slice none 0 0)] [(0,1,27),(1,1,28),(2,1,29)])) (.two 4 (oi 31 (.call 52 [30])) (.e 5 (oi 10 (.al 74 [.ints .u8 32 (List.replicate 32 0)])) (.e 6 (oe (.st 32 10 31)) .nil))
  5 ⟨some 10,none,.al 74 [.ints .u8 32 (List.replicate 32 0)]⟩ (.e 4 (oi 31 (.call 52 [30])) (.e 6 (oe (.st 32 10 31)) .nil)))
  5 ⟨some 10,none,.al 74 [.ints .u8 32 (List.replicate 32 0)]⟩ (.e 3 (oi 30 (.bs 24 3 1 [.one (.slice none 0 0),.one (.slice none 0 0),.one (.slice none 0 0)] [(0,1,27),(1,1,28),(2,1,29)])) (.e 4 (oi 31 (.call 52 [30])) (.e 6 (oe (.st 32 10 31)) .nil)))))))
def Z0fe:Sch:=(.q [0] (oj 32 (.ld 32 true 10)) (.q [1] (oj 33 (.ld 20 true 7)) (.p [2] (oj 34 (.call 69 [33])) (.q [3] (oj 35 (.ld 32 true 9)) (.p [4] (oj 36 (.call 68 [32,34,35])) (.p [5] (oj 37 (.call 50 [36])) (.e 6 (oi 11 (.al 29 [.ints .u8 32 (List.replicate 32 0)])) (.e 7 (oe (.st 32 11 37)) .nil))))))))
def Z0ff:Sch:=(.p [1] (oj 39 (.sla 64 1 5 none (some (ci 32)) none)) (.p [2] (oj 40 (.s2a 32 39)) (.q [0] (oj 38 (.ld 32 true 11)) (.q [3] (oj 41 (.ld 32 true 40)) (.p [4] (oj 42 (.eqa false [(.i .u8,32)] 38 41)) (.p [5] (oj 6 (.mv 42)) .nil))))))
def d25:FnD:=⟨43,[.tmp 6],(.seq (.ops Z0f8) (.seq (.ops Z0f9) (.seq (.ops Z0fa) (.seq (.seq (.ops Z0fb) (.cond 26 (.seq (.ops Z0fc) .ret) .skip)) (.seq (.draw Z0fd [6]) (.seq (.draw Z0fe [7]) (.seq (.draw Z0ff []) .ret)))))))⟩
theorem ok25:okF Tryz.prog 25 d25=true:=by kernel_rfl
def Z0ij:List J:=[oj 0 (.mv (.const (.pointer none)))]
def Z0ik:List J:=[oj 1 (.bd [.one (.slice none 0 0),.one (.int .i64 0)] []),oj 2 (.bx 178 1),oj 0 (.mv 2)]
def d74:FnD:=⟨3,[.tmp 0],(.seq (.ops Z0ij) (.seq (.ops Z0ik) .ret))⟩
theorem ok74:okF Tryz.prog 74 d74=true:=by kernel_rfl
def Z02r:List J:=[oj 4 (.mv 0),oj 5 (.nilc 4),oj 6 (.fa 1 5),oj 7 (.ld 1 false 6),oj 8 (.bin .eql 7 (ci 0))]
def Z02s:List J:=[oj 9 (.mv 0),oj 10 (.mv 0),oj 11 (.nilc 10),oj 12 (.fa 0 11),oj 13 (.ld 1 false 12),oj 14 (.mv 1),oj 15 (.app 5 1 1 [.one (.int .u8 0)] 13 14),oj 16 (.nilc 9),oj 17 (.fa 0 16),on_ (.st 1 17 15)]
def d147:FnD:=⟨18,[],(.seq (.ops Z02r) (.cond 8 (.ops Z02s) .skip))⟩
theorem Z0dk:okF Tryz.prog 147 d147=true:=by kernel_rfl
def Z0il:List J:=[oj 4 (.mv 0),oj 5 (.mv 1),oj 6 (.call 147 [4,5])]
def d75:FnD:=⟨7,[],(.ops Z0il)⟩
theorem ok75:okF Tryz.prog 75 d75=true:=by kernel_rfl
def Z0im:List J:=[oj 2 (.mv (.const (.slice none 0 0)))]
def Z0in:List J:=[oj 3 (.mv 0),oj 4 (.bin .lss 3 (ci 1)),oj 5 (.mv 4),.lg true 5 8 none [.op ⟨some 6,(some (5,false)),.mv 0⟩,.op ⟨some 7,(some (5,false)),.bin .gtr 6 (ci 255)⟩] 7]
def Z0io:List J:=[oj 2 (.mv (.const (.slice none 0 0)))]
def Z0ip:List J:=[oj 9 (.mv 0),oj 10 (.conv .u8 9),oj 11 (.bs 5 4 1 [.one (.int .u8 0),.one (.int .u8 0),.one (.int .u8 0),.one (.int .u8 0)] [(0,1,(.const (.int .u8 70))),(1,1,(.const (.int .u8 66))),(2,1,(.const (.int .u8 1))),(3,1,10)]),oj 2 (.mv 11)]
def d76:FnD:=⟨12,[.tmp 2],(.seq (.ops Z0im) (.seq (.seq (.ops Z0in) (.cond 8 (.seq (.ops Z0io) .ret) .skip)) (.seq (.ops Z0ip) .ret)))⟩
theorem ok76:okF Tryz.prog 76 d76=true:=by kernel_rfl
def Z073:List J:=[oj 0 (.mv (ci 0))]
def Z074:List J:=[oj 1 (.mv (ci 0))]
def Z075:List J:=[oj 3 (.conv .u32 (ci 0)),oj 4 (.un .xor 3),oj 2 (.mv 4)]
def Z076:List J:=[oj 5 (.mv 2),oj 6 (.bin .neq 5 (.const (.int .u32 0)))]
def Z078:List J:=[oj 9 (.mv 1),oj 10 (.bin .add 9 (ci 1)),oj 1 (.mv 10)]
def Zy8:IC:=(.ops Z078)
def Z077:List J:=[oj 7 (.mv 2),oj 8 (.bin .shr 7 (cu 1)),oj 2 (.mv 8)]
def Zz7:IC:=(.seq (.seq (.ops Z076) (.cond 6 .skip (.exit 0))) (.seq (.block 1 Zy8) (.ops Z077)))
def Zy7:IC:=(.loop Zz7)
def Z079:List J:=[oj 11 (.mv 1),oj 0 (.mv 11)]
def d199:FnD:=⟨12,[.tmp 0],(.seq (.ops Z073) (.seq (.ops Z074) (.seq (.seq (.ops Z075) (.block 0 Zy7)) (.seq (.ops Z079) .ret))))⟩
theorem Z0ea:okF Tryz.prog 199 d199=true:=by kernel_rfl
def Z02t:List J:=[oj 2 (.mv (.const (.slice none 0 0)))]
def Z02u:List J:=[oj 5 (.call 199 []),oj 6 (.bin .quo 5 (ci 8)),oj 7 (.mks 5 1 [.one (.int .u8 0)] 6 6),oj 3 (.mv 7)]
def Z02v:List J:=[oj 8 (.mv 3),oj 9 (.len 8),oj 10 (.bin .sub 9 (ci 1)),oj 4 (.mv 10)]
def Z02w:List J:=[oj 11 (.mv 4),oj 12 (.bin .geq 11 (ci 0))]
def Z02y:List J:=[oj 15 (.mv 3),oj 16 (.mv 4),oj 17 (.mv 0),oj 18 (.conv .u8 17),oj 19 (.ias 1 15 16),on_ (.st 1 19 18)]
def Z02z:List J:=[oj 20 (.mv 0),oj 21 (.bin .shr 20 (cu 8)),oj 0 (.mv 21)]
def Zx8:IC:=(.seq (.ops Z02y) (.ops Z02z))
def Z02x:List J:=[oj 13 (.mv 4),oj 14 (.bin .sub 13 (ci 1)),oj 4 (.mv 14)]
def Zyp:IC:=(.seq (.seq (.ops Z02w) (.cond 12 .skip (.exit 0))) (.seq (.block 1 Zx8) (.ops Z02x)))
def Zx7:IC:=(.loop Zyp)
def Z030:List J:=[oj 22 (.mv 3),oj 2 (.mv 22)]
def d148:FnD:=⟨23,[.tmp 2],(.seq (.ops Z02t) (.seq (.ops Z02u) (.seq (.seq (.ops Z02v) (.block 0 Zx7)) (.seq (.ops Z030) .ret))))⟩
theorem Z0dl:okF Tryz.prog 148 d148=true:=by kernel_rfl
def Z0iq:List J:=[oj 4 (.mv 0),oj 5 (.mv 1),oj 6 (.call 148 [5]),oj 7 (.call 147 [4,6])]
def d77:FnD:=⟨8,[],(.ops Z0iq)⟩
theorem ok77:okF Tryz.prog 77 d77=true:=by kernel_rfl
def Z0ir:List J:=[oj 2 (.mv (.const (.slice none 0 0))),oj 3 (.mv (ci 0))]
def Z0is:List J:=[oj 4 (.mv 0),oj 5 (.nilc 4),oj 6 (.fa 1 5),oj 7 (.ld 1 false 6),oj 8 (.bin .neq 7 (ci 0))]
def Z0it:Sch:=(.p [0] (oj 9 (.mv 0)) (.p [1] (oj 10 (.nilc 9)) (.p [2] (oj 11 (.fa 1 10)) (.p [4] (oj 2 (.mv (.const (.slice none 0 0)))) (.q [3] (oj 12 (.ld 1 false 11)) (.p [5] (oj 3 (.mv 12)) .nil))))))
def Z0iu:List J:=[oj 13 (.bs 5 0 1 [] []),oj 14 (.mv 0),oj 15 (.nilc 14),oj 16 (.fa 0 15),oj 17 (.ld 1 false 16),oj 18 (.app 5 1 1 [.one (.int .u8 0)] 13 17),oj 2 (.mv 18),oj 3 (.mv (ci 0))]
def d78:FnD:=⟨19,[.tmp 2,.tmp 3],(.seq (.ops Z0ir) (.seq (.seq (.ops Z0is) (.cond 8 (.seq (.draw Z0it []) .ret) .skip)) (.seq (.ops Z0iu) .ret)))⟩
theorem ok78:okF Tryz.prog 78 d78=true:=by kernel_rfl
def Z0fn:List J:=[oj 1 (.bx 51 0),oj 2 (.mv (.const (.slice none 0 0)))]
def Z0fo:List J:=[oj 6 (.fa 0 1),oj 7 (.ld 1 false 6),oj 8 (.bin .lss 7 (ci 1)),oj 9 (.mv 8),.lg true 9 13 none [.op ⟨some 10,(some (9,false)),.fa 0 1⟩,.op ⟨some 11,(some (9,false)),.ld 1 false 10⟩,.op ⟨some 12,(some (9,false)),.bin .gtr 11 (ci 64)⟩] 12]
def Z0fp:List J:=[oj 2 (.mv (.const (.slice none 0 0)))]
def Z0fq:List J:=[oj 14 (.call 74 []),oj 3 (.mv 14)]
def Z0fr:List J:=[oj 15 (.mv 3),oj 16 (.call 76 [(ci 11)]),oj 17 (.call 75 [15,16])]
def Z0fs:List J:=[oj 18 (.mv 3),oj 19 (.fa 0 1),oj 20 (.ld 1 false 19),oj 21 (.conv .u32 20),oj 22 (.call 77 [18,21])]
def Z0ft:List J:=[oj 23 (.mv 3),oj 24 (.fa 1 1),oj 25 (.sla 32 1 24 none none none),oj 26 (.call 75 [23,25])]
def Z0fu:List J:=[oj 28 (.mv 3),oj 29 (.call 78 [28]),oj 27 (.mv 29),oj 30 (.ext 27 0),oj 31 (.ext 27 1),oj 4 (.mv 30),oj 5 (.mv 31)]
def Z0fv:List J:=[oj 32 (.mv 4),oj 2 (.mv 32)]
def d29:FnD:=⟨33,[.tmp 2],(.seq (.ops Z0fn) (.seq (.seq (.ops Z0fo) (.cond 13 (.seq (.ops Z0fp) .ret) .skip)) (.seq (.ops Z0fq) (.seq (.ops Z0fr) (.seq (.ops Z0fs) (.seq (.ops Z0ft) (.seq (.ops Z0fu) (.seq (.ops Z0fv) .ret))))))))⟩
theorem ok29:okF Tryz.prog 29 d29=true:=by kernel_rfl
def Z0iv:List J:=[oj 2 (.bx 29 0),oj 3 (.bx 56 1),oj 4 (.mv (.const (.nilFunc)))]
def Z0iw:List J:=[oj 5 (.mf 151 [2,3]),oj 4 (.mv 5)]
def d82:FnD:=⟨6,[.tmp 4],(.seq (.ops Z0iv) (.seq (.ops Z0iw) .ret))⟩
theorem ok82:okF Tryz.prog 82 d82=true:=by kernel_rfl
def Z038:List J:=[oj 3 (.bx 29 1),oj 4 (.mv (ci 0))]
def Z039:List J:=[oj 6 (.mv 0),oj 7 (.len 6),oj 8 (.mv (ci 0))]
def Z03a:List J:=[oj 9 (.bin .lss 8 7)]
def Z03b:List J:=[oj 10 (.mv 8),oj 5 (.mv 10)]
def Z03c:Sch:=(.p [1] (oj 12 (.mv 0)) (.p [2] (oj 13 (.mv 5)) (.p [3] (oj 14 (.ias 32 12 13)) (.q [0] (oj 11 (.ld 32 true 3)) (.q [4] (oj 15 (.ld 32 true 14)) (.p [5] (oj 16 (.eqa false [(.i .u8,32)] 11 15)) .nil))))))
def Z03d:List J:=[oj 17 (.mv 5),oj 4 (.mv 17)]
def Zxc:IC:=(.seq (.ops Z03b) (.seq (.draw Z03c []) (.cond 16 (.seq (.ops Z03d) .ret) .skip)))
def Z03e:List J:=[oj 18 (.bin .add 8 (ci 1)),oj 8 (.mv 18)]
def Zyr:IC:=(.seq (.ops Z03a) (.seq (.cond 9 .skip (.exit 0)) (.seq (.block 1 Zxc) (.ops Z03e))))
def Zxb:IC:=(.loop Zyr)
def Z03f:List J:=[oj 4 (.mv (ci (-1)))]
def d152:FnD:=⟨19,[.tmp 4],(.seq (.ops Z038) (.seq (.seq (.ops Z039) (.block 0 Zxb)) (.seq (.ops Z03f) .ret)))⟩
theorem Z0dn:okF Tryz.prog 152 d152=true:=by kernel_rfl
def Z0ix:List J:=[oj 3 (.bx 29 1),oj 4 (.mv (.const (.bool false)))]
def Z0iy:List J:=[oj 5 (.mv 0),oj 6 (.ld 32 true 3),oj 7 (.call 152 [5,6]),oj 8 (.bin .geq 7 (ci 0)),oj 4 (.mv 8)]
def d83:FnD:=⟨9,[.tmp 4],(.seq (.ops Z0ix) (.seq (.ops Z0iy) .ret))⟩
theorem ok83:okF Tryz.prog 83 d83=true:=by kernel_rfl
def Z0fw:List J:=[oj 2 (.bx 29 0),oj 4 (.al 40 [.one (.slice none 0 0)]),oj 5 (.al 35 [.one (.int .i64 0)])]
def Z0fx:List J:=[oj 9 (.mv 1),oj 10 (.len 9),oj 11 (.bin .gtr 10 (ci 64))]
def Z0fy:List J:=[on_ (.st 1 4 (.const (.slice none 0 0))),on_ (.st 1 5 (ci 1))]
def Z0fz:List J:=[oj 12 (.ld 32 true 2),oj 13 (.bs 29 1 32 [.ints .u8 32 (List.replicate 32 0)] [(0,32,12)]),oj 6 (.al 40 [.one (.slice none 0 0)]),on_ (.st 1 6 13)]
def Z0g0:List J:=[oj 14 (.ld 32 true 2),oj 15 (.mv 1),oj 16 (.call 82 [14,15])]
def Z0g1:List J:=[oj 7 (.al 29 [.ints .u8 32 (List.replicate 32 0)]),on_ (.st 32 7 17)]
def Z0g2:List J:=[oj 8 (.al 51 [.one (.int .i64 0),.ints .u8 32 (List.replicate 32 0),.ints .u8 64 (List.replicate 64 0)]),on_ (.st 97 8 18)]
def Z0g3:List J:=[oj 19 (.fa 0 8),oj 20 (.ld 1 false 19),oj 21 (.ld 1 false 6),oj 22 (.len 21),oj 23 (.bin .neq 20 22),oj 24 (.mv 23),.lg true 24 29 none [.op ⟨some 25,(some (24,false)),.ld 1 false 6⟩,.op ⟨some 26,(some (24,false)),.fa 1 8⟩,.op ⟨some 27,(some (24,false)),.ld 32 true 26⟩,.op ⟨some 28,(some (24,false)),.call 83 [25,27]⟩] 28]
def Z0g4:List J:=[on_ (.st 1 4 (.const (.slice none 0 0))),on_ (.st 1 5 (ci 171))]
def Z0g5:Sch:=(.p [3] (oj 33 (.fa 33 8)) (.q [0] (oj 30 (.ld 32 true 7)) (.q [1] (oj 31 (.ld 97 true 8)) (.q [4] (oj 34 (.ld 64 true 33)) (.e 2 (oi 32 (.call 29 [31])) (.e 5 (oi 35 (.call 25 [30,32,34])) (.p [6] (oj 36 (.un .not 35)) .nil)))))))
def Z091:List J:=[on_ (.st 1 4 (.const (.slice none 0 0))),on_ (.st 1 5 (ci 110))]
def Z092:List J:=[oj 37 (.ld 1 false 6),oj 38 (.fa 1 8),oj 39 (.ld 32 true 38),oj 40 (.bs 29 1 32 [.ints .u8 32 (List.replicate 32 0)] [(0,32,39)]),oj 41 (.app 29 32 32 [.ints .u8 32 (List.replicate 32 0)] 37 40),on_ (.st 1 6 41)]
def Z0bg:IC:=(.seq (.seq (.ops Z0g3) (.cond 29 (.seq (.ops Z0g4) .ret) .skip)) (.seq (.seq (.draw Z0g5 []) (.cond 36 (.seq (.ops Z091) .ret) .skip)) (.ops Z092)))
def Z0bf:IC:=(.rng 16 [17,18] (.seq (.ops Z0g1) (.ops Z0g2)) (.block 1 Z0bg))
def Z093:List J:=[oj 42 (.ld 1 false 6),on_ (.st 1 4 42),on_ (.st 1 5 (ci 0))]
def d34:FnD:=⟨43,[.cell 4 1 false,.cell 5 1 false],(.seq (.ops Z0fw) (.seq (.seq (.ops Z0fx) (.cond 11 (.seq (.ops Z0fy) .ret) .skip)) (.seq (.ops Z0fz) (.seq (.seq (.ops Z0g0) (.block 0 Z0bf)) (.seq (.ops Z093) .ret)))))⟩
theorem ok34:okF Tryz.prog 34 d34=true:=by kernel_rfl
def Z0iz:List J:=[oj 4 (.mv (.const (.bool false)))]
def Z0j0:List J:=[oj 7 (.mv 0),oj 8 (.len 7),oj 9 (.mv (ci 0))]
def Z0j1:List J:=[oj 10 (.bin .lss 9 8)]
def Z0j2:List J:=[oj 11 (.mv 9),oj 12 (.ias 97 7 9),oj 13 (.ld 97 true 12),oj 6 (.al 51 [.one (.int .i64 0),.ints .u8 32 (List.replicate 32 0),.ints .u8 64 (List.replicate 64 0)]),oj 5 (.mv 11),on_ (.st 97 6 13)]
def Z0j3:Sch:=(.p [0] (oj 14 (.mv 5)) (.p [1] (oj 15 (.mv 1)) (.p [2] (oj 16 (.len 15)) (.p [3] (oj 17 (.bin .geq 14 16)) (.p [4] (oj 18 (.mv 17)) (.q [5,6,7,8,9,10,11] (.lg true 18 25 none [.op ⟨some 19,(some (18,false)),.ld 97 true 6⟩,.op ⟨some 20,(some (18,false)),.mv 1⟩,.op ⟨some 21,(some (18,false)),.mv 5⟩,.op ⟨some 22,(some (18,false)),.ias 97 20 21⟩,.op ⟨some 23,(some (18,false)),.ld 97 true 22⟩,.op ⟨some 24,(some (18,false)),.eqa true [(.i .i64,1),(.i .u8,96)] 19 23⟩] 24) .nil))))))
def Z0j4:List J:=[oj 4 (.mv (.const (.bool false)))]
def Z0bv:IC:=(.seq (.ops Z0j2) (.seq (.draw Z0j3 []) (.cond 25 (.seq (.ops Z0j4) .ret) .skip)))
def Z0j5:List J:=[oj 26 (.bin .add 9 (ci 1)),oj 9 (.mv 26)]
def Z0cm:IC:=(.seq (.ops Z0j1) (.seq (.cond 10 .skip (.exit 0)) (.seq (.block 1 Z0bv) (.ops Z0j5))))
def Z0bu:IC:=(.loop Z0cm)
def Z0j6:List J:=[oj 4 (.mv (.const (.bool true)))]
def d85:FnD:=⟨27,[.tmp 4],(.seq (.ops Z0iz) (.seq (.seq (.ops Z0j0) (.block 0 Z0bu)) (.seq (.ops Z0j6) .ret)))⟩
theorem ok85:okF Tryz.prog 85 d85=true:=by kernel_rfl
def Z0j7:List J:=[oj 2 (.mv (.const (.slice none 0 0)))]
def Z0j8:List J:=[oj 3 (.mv 0),oj 4 (.isn false 3)]
def Z0j9:List J:=[oj 2 (.mv (.const (.slice none 0 0)))]
def Z0ja:List J:=[oj 5 (.bs 51 0 97 [] []),oj 6 (.mv 0),oj 7 (.app 51 97 104 [.one (.int .i64 0),.ints .u8 32 (List.replicate 32 0),.ints .u8 64 (List.replicate 64 0)] 5 6),oj 2 (.mv 7)]
def d86:FnD:=⟨8,[.tmp 2],(.seq (.ops Z0j7) (.seq (.seq (.ops Z0j8) (.cond 4 (.seq (.ops Z0j9) .ret) .skip)) (.seq (.ops Z0ja) .ret)))⟩
theorem ok86:okF Tryz.prog 86 d86=true:=by kernel_rfl
def Z0g6:List J:=[oj 3 (.bx 29 0),oj 6 (.mv (.const (.slice none 0 0))),oj 7 (.mv (ci 0))]
def Z0g7:List J:=[oj 12 (.mv 1),oj 13 (.mv 2),oj 14 (.bs 56 2 1 [.one (.slice none 0 0),.one (.slice none 0 0)] [(0,1,12),(1,1,13)]),oj 15 (.len 14),oj 16 (.mv (ci 0))]
def Z0g8:List J:=[oj 17 (.bin .lss 16 15)]
def Z0g9:List J:=[oj 18 (.ias 1 14 16),oj 19 (.ld 1 false 18),oj 9 (.mv 19)]
def Z0ga:List J:=[oj 21 (.ld 32 true 3),oj 22 (.mv 9),oj 23 (.call 34 [21,22]),oj 20 (.mv 23),oj 24 (.ext 20 0),oj 25 (.ext 20 1),oj 10 (.mv 24),oj 11 (.mv 25)]
def Z0gb:List J:=[oj 26 (.mv 11),oj 27 (.bin .neq 26 (ci 0))]
def Z0gc:List J:=[oj 28 (.mv 11),oj 6 (.mv (.const (.slice none 0 0))),oj 7 (.mv 28)]
def Z0bi:IC:=(.seq (.ops Z0g9) (.seq (.ops Z0ga) (.seq (.ops Z0gb) (.cond 27 (.seq (.ops Z0gc) .ret) .skip))))
def Z0gd:List J:=[oj 29 (.bin .add 16 (ci 1)),oj 16 (.mv 29)]
def Z0cg:IC:=(.seq (.ops Z0g8) (.seq (.cond 17 .skip (.exit 0)) (.seq (.block 1 Z0bi) (.ops Z0gd))))
def Z0bh:IC:=(.loop Z0cg)
def Z0ge:List J:=[oj 31 (.mv 1),oj 32 (.mv 2),oj 33 (.call 85 [31,32]),oj 30 (.mv 33)]
def Z0gf:List J:=[oj 34 (.mv 2),oj 35 (.call 86 [34]),oj 6 (.mv 35),oj 7 (.mv (ci 0))]
def Z094:List J:=[oj 37 (.mv 2),oj 38 (.mv 1),oj 39 (.call 85 [37,38]),oj 36 (.mv 39)]
def Z095:List J:=[oj 40 (.mv 1),oj 41 (.call 86 [40]),oj 6 (.mv 41),oj 7 (.mv (ci 0))]
def Z0bj:IC:=(.seq (.ops Z0ge) (.cond 30 (.seq (.ops Z0gf) .ret) (.seq (.ops Z094) (.cond 36 (.seq (.ops Z095) .ret) .skip))))
def Z096:List J:=[oj 6 (.mv (.const (.slice none 0 0))),oj 7 (.mv (ci 171))]
def d41:FnD:=⟨42,[.tmp 6,.tmp 7],(.seq (.ops Z0g6) (.seq (.seq (.ops Z0g7) (.block 0 Z0bh)) (.seq (.block 2 Z0bj) (.seq (.ops Z096) .ret))))⟩
theorem ok41:okF Tryz.prog 41 d41=true:=by kernel_rfl
def Z0gg:List J:=[oj 4 (.mv (.const (.bool false)))]
def Z0gh:List J:=[oj 6 (.mv 0),oj 7 (.len 6),oj 8 (.mv 1),oj 9 (.len 8),oj 10 (.bin .neq 7 9)]
def Z0gi:List J:=[oj 4 (.mv (.const (.bool false)))]
def Z0gj:List J:=[oj 5 (.mv (ci 0))]
def Z0gk:List J:=[oj 11 (.mv 5),oj 12 (.mv 0),oj 13 (.len 12),oj 14 (.bin .lss 11 13)]
def Z0gm:Sch:=(.p [0] (oj 17 (.mv 0)) (.p [1] (oj 18 (.mv 5)) (.p [2] (oj 19 (.ias 97 17 18)) (.p [4] (oj 21 (.mv 1)) (.p [5] (oj 22 (.mv 5)) (.p [6] (oj 23 (.ias 97 21 22)) (.q [3] (oj 20 (.ld 97 true 19)) (.q [7] (oj 24 (.ld 97 true 23)) (.p [8] (oj 25 (.eqa true [(.i .i64,1),(.i .u8,96)] 20 24)) .nil)))))))))
def Z0gn:List J:=[oj 4 (.mv (.const (.bool false)))]
def Z0bl:IC:=(.seq (.draw Z0gm []) (.cond 25 (.seq (.ops Z0gn) .ret) .skip))
def Z0gl:List J:=[oj 15 (.mv 5),oj 16 (.bin .add 15 (ci 1)),oj 5 (.mv 16)]
def Z0ch:IC:=(.seq (.seq (.ops Z0gk) (.cond 14 .skip (.exit 0))) (.seq (.block 1 Z0bl) (.ops Z0gl)))
def Z0bk:IC:=(.loop Z0ch)
def Z0go:List J:=[oj 4 (.mv (.const (.bool true)))]
def d43:FnD:=⟨26,[.tmp 4],(.seq (.ops Z0gg) (.seq (.seq (.ops Z0gh) (.cond 10 (.seq (.ops Z0gi) .ret) .skip)) (.seq (.seq (.ops Z0gj) (.block 0 Z0bk)) (.seq (.ops Z0go) .ret))))⟩
theorem ok43:okF Tryz.prog 43 d43=true:=by kernel_rfl
def Z0gp:List J:=[oj 4 (.bx 29 0),oj 8 (.mv (.const (.bool false)))]
def Z0gq:List J:=[oj 20 (.ld 32 true 4),oj 21 (.mv 1),oj 22 (.mv 2),oj 23 (.call 41 [20,21,22]),oj 19 (.mv 23),oj 24 (.ext 19 0),oj 25 (.ext 19 1),oj 9 (.mv 24),oj 10 (.mv 25)]
def Z0gr:List J:=[oj 27 (.ld 32 true 4),oj 28 (.mv 2),oj 29 (.mv 3),oj 30 (.call 41 [27,28,29]),oj 26 (.mv 30),oj 31 (.ext 26 0),oj 32 (.ext 26 1),oj 11 (.mv 31),oj 12 (.mv 32)]
def Z0gs:List J:=[oj 34 (.ld 32 true 4),oj 35 (.mv 1),oj 36 (.mv 3),oj 37 (.call 41 [34,35,36]),oj 33 (.mv 37),oj 38 (.ext 33 0),oj 39 (.ext 33 1),oj 13 (.mv 38),oj 14 (.mv 39)]
def Z0gt:List J:=[oj 40 (.mv 10),oj 41 (.bin .neq 40 (ci 0)),oj 42 (.mv 41),.lg true 42 45 none [.op ⟨some 43,(some (42,false)),.mv 12⟩,.op ⟨some 44,(some (42,false)),.bin .neq 43 (ci 0)⟩] 44,oj 46 (.mv 45),.lg true 46 49 none [.op ⟨some 47,(some (46,false)),.mv 14⟩,.op ⟨some 48,(some (46,false)),.bin .neq 47 (ci 0)⟩] 48]
def Z0gu:List J:=[oj 8 (.mv (.const (.bool true)))]
def Z0gv:List J:=[oj 51 (.ld 32 true 4),oj 52 (.mv 9),oj 53 (.mv 3),oj 54 (.call 41 [51,52,53]),oj 50 (.mv 54),oj 55 (.ext 50 0),oj 56 (.ext 50 1),oj 15 (.mv 55),oj 16 (.mv 56)]
def Z0gw:List J:=[oj 58 (.ld 32 true 4),oj 59 (.mv 1),oj 60 (.mv 11),oj 61 (.call 41 [58,59,60]),oj 57 (.mv 61),oj 62 (.ext 57 0),oj 63 (.ext 57 1),oj 17 (.mv 62),oj 18 (.mv 63)]
def Z0gx:List J:=[oj 64 (.mv 16),oj 65 (.bin .eql 64 (ci 0)),oj 66 (.mv 65),.lg false 66 69 none [.op ⟨some 67,(some (66,true)),.mv 18⟩,.op ⟨some 68,(some (66,true)),.bin .eql 67 (ci 0)⟩] 68,oj 70 (.mv 69),.lg false 70 74 none [.op ⟨some 71,(some (70,true)),.mv 15⟩,.op ⟨some 72,(some (70,true)),.mv 17⟩,.op ⟨some 73,(some (70,true)),.call 43 [71,72]⟩] 73,oj 8 (.mv 74)]
def d46:FnD:=⟨75,[.tmp 8],(.seq (.ops Z0gp) (.seq (.ops Z0gq) (.seq (.ops Z0gr) (.seq (.ops Z0gs) (.seq (.seq (.ops Z0gt) (.cond 49 (.seq (.ops Z0gu) .ret) .skip)) (.seq (.ops Z0gv) (.seq (.ops Z0gw) (.seq (.ops Z0gx) .ret))))))))⟩
theorem ok46:okF Tryz.prog 46 d46=true:=by kernel_rfl
def Z06h:List J:=[oj 1 (.bx 74 0),oj 2 (.mv (.const (.slice none 0 0)))]
def Z06i:List J:=[oj 4 (.ld 32 true 1),oj 5 (.call 132 [4]),oj 3 (.al 162 [.ints .u64 4 (List.replicate 4 0)]),on_ (.st 4 3 5)]
def Z06j:List J:=[oj 6 (.sla 4 1 3 none none none),oj 2 (.mv 6)]
def d169:FnD:=⟨7,[.tmp 2],(.seq (.ops Z06h) (.seq (.ops Z06i) (.seq (.ops Z06j) .ret)))⟩
theorem Z0e3:okF Tryz.prog 169 d169=true:=by kernel_rfl
def Z05x:List J:=[oj 1 (.bx 74 0),oj 2 (.al 162 [.ints .u64 4 (List.replicate 4 0)])]
def Z05y:List J:=[oj 3 (.ld 32 true 1),oj 4 (.call 169 [3]),oj 5 (.call 162 [4]),on_ (.st 4 2 5)]
def d166:FnD:=⟨6,[.cell 2 4 true],(.seq (.ops Z05x) (.seq (.ops Z05y) .ret))⟩
theorem Z0e0:okF Tryz.prog 166 d166=true:=by kernel_rfl
def Zzs:List J:=[oj 2 (.bx 74 0),oj 3 (.bx 74 1),oj 4 (.al 74 [.ints .u8 32 (List.replicate 32 0)])]
def Zzt:Sch:=(.q [0] (oj 8 (.ld 32 true 2)) (.p [1] (oj 9 (.call 166 [8])) (.q [2] (oj 10 (.ld 32 true 3)) (.p [3] (oj 11 (.call 166 [10])) (.p [4] (oj 12 (.call 165 [9,11])) (.p [5] (oj 7 (.mv 12)) (.p [6] (oj 13 (.ext 7 0)) (.p [7] (oj 14 (.ext 7 1)) (.e 8 (oi 5 (.al 162 [.ints .u64 4 (List.replicate 4 0)])) (.e 9 (oe (.st 4 5 13)) (.p [10] (oj 6 (.mv 14)) .nil)))))))))))
def Zzu:List J:=[oj 15 (.ld 4 true 5),oj 16 (.call 167 [15]),oj 17 (.call 161 [16]),on_ (.st 32 4 17)]
def d100:FnD:=⟨18,[.cell 4 32 true],(.seq (.ops Zzs) (.seq (.draw Zzt [9]) (.seq (.ops Zzu) .ret)))⟩
theorem Z0d0:okF Tryz.prog 100 d100=true:=by kernel_rfl
def Zzv:List J:=[oj 2 (.bx 74 0),oj 3 (.bx 74 1),oj 4 (.al 74 [.ints .u8 32 (List.replicate 32 0)])]
def Zzw:Sch:=(.q [0] (oj 5 (.ld 32 true 2)) (.q [2] (oj 7 (.ld 32 true 3)) (.e 1 (oi 6 (.call 169 [5])) (.e 3 (oi 8 (.call 169 [7])) (.e 4 (oi 9 (.call 168 [6,8])) (.e 5 (oi 10 (.call 162 [9])) (.p [6] (oj 11 (.call 161 [10])) (.e 7 (oe (.st 32 4 11)) .nil))))))))
def d101:FnD:=⟨12,[.cell 4 32 true],(.seq (.ops Zzv) (.seq (.draw Zzw [7]) .ret))⟩
theorem Z0d1:okF Tryz.prog 101 d101=true:=by kernel_rfl
def Z0hs:List J:=[oj 3 (.bx 74 0),oj 4 (.bx 74 1),oj 5 (.bx 74 2),oj 6 (.al 74 [.ints .u8 32 (List.replicate 32 0)])]
def Z0ht:Sch:=(.q [0] (oj 7 (.ld 32 true 3)) (.q [1] (oj 8 (.ld 32 true 4)) (.p [2] (oj 9 (.call 101 [7,8])) (.q [3] (oj 10 (.ld 32 true 5)) (.p [4] (oj 11 (.call 100 [9,10])) (.e 5 (oe (.st 32 6 11)) .nil))))))
def d53:FnD:=⟨12,[.cell 6 32 true],(.seq (.ops Z0hs) (.seq (.draw Z0ht [5]) .ret))⟩
theorem ok53:okF Tryz.prog 53 d53=true:=by kernel_rfl
def Z0ey:List J:=[oj 2 (.bx 23 0),oj 4 (.al 27 [.ints .u8 64 (List.replicate 64 0)])]
def Z0ez:List J:=[oj 14 (.ld 32 true 2),oj 15 (.call 49 [14]),oj 13 (.mv 15),oj 16 (.ext 13 0),oj 17 (.ext 13 1),oj 5 (.al 74 [.ints .u8 32 (List.replicate 32 0)]),on_ (.st 32 5 16),oj 6 (.mv 17)]
def Z0f0:List J:=[oj 18 (.ld 32 true 5),oj 19 (.call 51 [18]),oj 20 (.call 50 [19]),oj 7 (.al 29 [.ints .u8 32 (List.replicate 32 0)]),on_ (.st 32 7 20)]
def Z0f1:List J:=[oj 21 (.mv 6),oj 22 (.mv 1),oj 23 (.bs 24 2 1 [.one (.slice none 0 0),.one (.slice none 0 0)] [(0,1,21),(1,1,22)]),oj 24 (.call 52 [23]),oj 8 (.al 74 [.ints .u8 32 (List.replicate 32 0)]),on_ (.st 32 8 24)]
def Z0f2:List J:=[oj 25 (.ld 32 true 8),oj 26 (.call 51 [25]),oj 27 (.call 50 [26]),oj 9 (.al 29 [.ints .u8 32 (List.replicate 32 0)]),on_ (.st 32 9 27)]
def Z0f3:Sch:=(.p [0] (oj 28 (.sla 32 1 9 none none none)) (.p [1] (oj 29 (.sla 32 1 7 none none none)) (.p [2] (oj 30 (.mv 1)) (.two 3 (oi 31 (.bs 24 3 1 [.one (.slice none 0 0),.one (.slice none 0 0),.one (.slice none 0 0)] [(0,1,28),(1,1,29),(2,1,30)])) (.two 4 (oi 32 (.call 52 [31])) (.e 5 (oi 10 (.al 74 [.ints .u8 32 (List.replicate 32 0)])) (.e 6 (oe (.st 32 10 32)) .nil))
  5 ⟨some 10,none,.al 74 [.ints .u8 32 (List.replicate 32 0)]⟩ (.e 4 (oi 32 (.call 52 [31])) (.e 6 (oe (.st 32 10 32)) .nil)))
  5 ⟨some 10,none,.al 74 [.ints .u8 32 (List.replicate 32 0)]⟩ (.e 3 (oi 31 (.bs 24 3 1 [.one (.slice none 0 0),.one (.slice none 0 0),.one (.slice none 0 0)] [(0,1,28),(1,1,29),(2,1,30)])) (.e 4 (oi 32 (.call 52 [31])) (.e 6 (oe (.st 32 10 32)) .nil)))))))
def Z0f4:List J:=[oj 33 (.ld 32 true 10),oj 34 (.ld 32 true 5),oj 35 (.ld 32 true 8),oj 36 (.call 53 [33,34,35]),oj 11 (.al 74 [.ints .u8 32 (List.replicate 32 0)]),on_ (.st 32 11 36)]
def Z0f5:List J:=[oj 12 (.al 27 [.ints .u8 64 (List.replicate 64 0)])]
def Z0f6:Sch:=(.p [0] (oj 37 (.sla 64 1 12 none (some (ci 32)) none)) (.p [1] (oj 38 (.sla 32 1 9 none none none)) (.e 2 (oi 39 (.cpy 1 37 38)) .nil)))
def Z0f7:Sch:=(.p [0] (oj 40 (.sla 64 1 12 (some (ci 32)) none none)) (.p [1] (oj 41 (.sla 32 1 11 none none none)) (.e 2 (oi 42 (.cpy 1 40 41)) .nil)))
def Z005:List J:=[oj 43 (.ld 64 true 12),on_ (.st 64 4 43)]
def d11:FnD:=⟨44,[.cell 4 64 true],(.seq (.ops Z0ey) (.seq (.ops Z0ez) (.seq (.ops Z0f0) (.seq (.ops Z0f1) (.seq (.ops Z0f2) (.seq (.draw Z0f3 [6]) (.seq (.ops Z0f4) (.seq (.ops Z0f5) (.seq (.draw Z0f6 [2]) (.seq (.draw Z0f7 [2]) (.seq (.ops Z005) .ret)))))))))))⟩
theorem ok11:okF Tryz.prog 11 d11=true:=by kernel_rfl
def Z0fg:List J:=[oj 3 (.bx 23 0),oj 5 (.bx 29 2),oj 6 (.al 51 [.one (.int .i64 0),.ints .u8 32 (List.replicate 32 0),.ints .u8 64 (List.replicate 64 0)]),oj 7 (.mv (.const (.bool false)))]
def Z0fh:List J:=[oj 10 (.mv 1),oj 11 (.ld 32 true 5),oj 12 (.bd [.one (.int .i64 0),.ints .u8 32 (List.replicate 32 0),.ints .u8 64 (List.replicate 64 0)] [(0,1,10),(1,32,11)]),oj 8 (.al 51 [.one (.int .i64 0),.ints .u8 32 (List.replicate 32 0),.ints .u8 64 (List.replicate 64 0)]),on_ (.st 97 8 12)]
def Z0fi:List J:=[oj 13 (.ld 97 true 8),oj 14 (.call 29 [13]),oj 9 (.mv 14)]
def Z0fj:List J:=[oj 15 (.mv 9),oj 16 (.isn false 15)]
def Z0fk:List J:=[oj 17 (.bd [.one (.int .i64 0),.ints .u8 32 (List.replicate 32 0),.ints .u8 64 (List.replicate 64 0)] []),on_ (.st 97 6 17),oj 7 (.mv (.const (.bool false)))]
def Z0fl:List J:=[oj 18 (.ld 32 true 3),oj 19 (.mv 9),oj 20 (.call 11 [18,19]),oj 21 (.fa 33 8),on_ (.st 64 21 20)]
def Z0fm:List J:=[oj 22 (.ld 97 true 8),on_ (.st 97 6 22),oj 7 (.mv (.const (.bool true)))]
def d27:FnD:=⟨23,[.cell 6 97 true,.tmp 7],(.seq (.ops Z0fg) (.seq (.ops Z0fh) (.seq (.ops Z0fi) (.seq (.seq (.ops Z0fj) (.cond 16 (.seq (.ops Z0fk) .ret) .skip)) (.seq (.ops Z0fl) (.seq (.ops Z0fm) .ret))))))⟩
theorem ok27:okF Tryz.prog 27 d27=true:=by kernel_rfl
def Z0gy:List J:=[oj 0 (.mv (.const (.bool false)))]
def Z0gz:List J:=[oj 6 (.bd [.ints .u8 32 (List.replicate 32 0)] [(0,1,(.const (.int .u8 5)))]),oj 7 (.call 34 [6,(.const (.slice none 0 0))]),oj 5 (.mv 7),oj 8 (.ext 5 0),oj 9 (.ext 5 1),oj 1 (.mv 8),oj 2 (.mv 9)]
def Z0h0:List J:=[oj 11 (.bd [.ints .u8 32 (List.replicate 32 0)] [(0,1,(.const (.int .u8 1)))]),oj 12 (.bd [.ints .u8 32 (List.replicate 32 0)] [(0,1,(.const (.int .u8 6)))]),oj 13 (.call 27 [11,(ci 1),12]),oj 10 (.mv 13),oj 14 (.ext 10 0),oj 15 (.ext 10 1),oj 3 (.al 51 [.one (.int .i64 0),.ints .u8 32 (List.replicate 32 0),.ints .u8 64 (List.replicate 64 0)]),on_ (.st 97 3 14),oj 4 (.mv 15)]
def Z0h1:List J:=[oj 16 (.mv 2),oj 17 (.bin .eql 16 (ci 0)),oj 18 (.mv 17),.lg false 18 22 none [.op ⟨some 19,(some (18,true)),.mv 1⟩,.op ⟨some 20,(some (18,true)),.len 19⟩,.op ⟨some 21,(some (18,true)),.bin .eql 20 (ci 1)⟩] 21,oj 23 (.mv 22),.lg false 23 29 none [.op ⟨some 24,(some (23,true)),.mv 1⟩,.op ⟨some 25,(some (23,true)),.ias 32 24 (ci 0)⟩,.op ⟨some 26,(some (23,true)),.ld 32 true 25⟩,.op ⟨some 27,(some (23,true)),.bd [.ints .u8 32 (List.replicate 32 0)] [(0,1,(.const (.int .u8 5)))]⟩,.op ⟨some 28,(some (23,true)),.eqa false [(.i .u8,32)] 26 27⟩] 28,oj 30 (.mv 29),.lg false 30 32 none [.op ⟨some 31,(some (30,true)),.mv 4⟩] 31,oj 33 (.mv 32),.lg false 33 37 none [.op ⟨some 34,(some (33,true)),.fa 0 3⟩,.op ⟨some 35,(some (33,true)),.ld 1 false 34⟩,.op ⟨some 36,(some (33,true)),.bin .eql 35 (ci 1)⟩] 36,oj 38 (.mv 37),.lg false 38 43 none [.op ⟨some 39,(some (38,true)),.fa 1 3⟩,.op ⟨some 40,(some (38,true)),.ld 32 true 39⟩,.op ⟨some 41,(some (38,true)),.bd [.ints .u8 32 (List.replicate 32 0)] [(0,1,(.const (.int .u8 6)))]⟩,.op ⟨some 42,(some (38,true)),.eqa false [(.i .u8,32)] 40 41⟩] 42,oj 44 (.mv 43),.op ⟨some 45,(some (44,true)),.ld 97 true 3⟩,.op ⟨some 46,(some (44,true)),.call 29 [45]⟩,.op ⟨some 47,(some (44,true)),.len 46⟩,.op ⟨some 48,(some (44,true)),.bin .eql 47 (ci 40)⟩,oj 49 (.pick 44 48 (.const (.bool false))),oj 0 (.mv 49)]
def d47:FnD:=⟨50,[.tmp 0],(.seq (.ops Z0gy) (.seq (.ops Z0gz) (.seq (.ops Z0h0) (.seq (.ops Z0h1) .ret))))⟩
theorem ok47:okF Tryz.prog 47 d47=true:=by kernel_rfl
def Z0h2:List J:=[oj 4 (.mv (ci 0))]
def Z0h3:List J:=[oj 5 (.mv (ci 0))]
def Z0h4:List J:=[oj 6 (.mv 5),oj 7 (.mv 0),oj 8 (.len 7),oj 9 (.bin .lss 6 8),oj 10 (.mv 9),.lg false 10 15 none [.op ⟨some 11,(some (10,true)),.mv 5⟩,.op ⟨some 12,(some (10,true)),.mv 1⟩,.op ⟨some 13,(some (10,true)),.len 12⟩,.op ⟨some 14,(some (10,true)),.bin .lss 11 13⟩] 14]
def Z0h6:Sch:=(.p [0] (oj 18 (.mv 0)) (.p [1] (oj 19 (.mv 5)) (.p [2] (oj 20 (.ias 97 18 19)) (.p [4] (oj 22 (.mv 1)) (.p [5] (oj 23 (.mv 5)) (.p [6] (oj 24 (.ias 97 22 23)) (.q [3] (oj 21 (.ld 97 true 20)) (.q [7] (oj 25 (.ld 97 true 24)) (.p [8] (oj 26 (.eqa true [(.i .i64,1),(.i .u8,96)] 21 25)) .nil)))))))))
def Z0h7:List J:=[oj 27 (.mv 5),oj 4 (.mv 27)]
def Z0bn:IC:=(.seq (.draw Z0h6 []) (.cond 26 (.seq (.ops Z0h7) .ret) .skip))
def Z0h5:List J:=[oj 16 (.mv 5),oj 17 (.bin .add 16 (ci 1)),oj 5 (.mv 17)]
def Z0ci:IC:=(.seq (.seq (.ops Z0h4) (.cond 15 .skip (.exit 0))) (.seq (.block 1 Z0bn) (.ops Z0h5)))
def Z0bm:IC:=(.loop Z0ci)
def Z0h8:List J:=[oj 4 (.mv (ci (-1)))]
def d48:FnD:=⟨28,[.tmp 4],(.seq (.ops Z0h2) (.seq (.seq (.ops Z0h3) (.block 0 Z0bm)) (.seq (.ops Z0h8) .ret)))⟩
theorem ok48:okF Tryz.prog 48 d48=true:=by kernel_rfl
def r9_0:List J:=[oj 4 (.bx 29 0),oj 8 (.mv (.const (.bool false)))]
def r9_1:List J:=[oj 19 (.ld 32 true 4),oj 20 (.mv 1),oj 21 (.mv 2),oj 22 (.mv 3),oj 23 (.call 46 [19,20,21,22]),oj 24 (.un .not 23)]
def r9_2:List J:=[oj 8 (.mv (.const (.bool false)))]
def r9_3:List J:=[oj 26 (.ld 32 true 4),oj 27 (.mv 1),oj 28 (.call 34 [26,27]),oj 25 (.mv 28),oj 29 (.ext 25 0),oj 30 (.ext 25 1),oj 9 (.mv 29),oj 10 (.mv 30)]
def r9_4:List J:=[oj 32 (.ld 32 true 4),oj 33 (.mv 2),oj 34 (.call 34 [32,33]),oj 31 (.mv 34),oj 35 (.ext 31 0),oj 36 (.ext 31 1),oj 11 (.mv 35),oj 12 (.mv 36)]
def r9_5:List J:=[oj 38 (.ld 32 true 4),oj 39 (.mv 1),oj 40 (.mv 2),oj 41 (.call 41 [38,39,40]),oj 37 (.mv 41),oj 42 (.ext 37 0),oj 43 (.ext 37 1),oj 13 (.mv 42),oj 14 (.mv 43)]
def r9_6:List J:=[oj 45 (.ld 32 true 4),oj 46 (.mv 2),oj 47 (.mv 1),oj 48 (.call 41 [45,46,47]),oj 44 (.mv 48),oj 49 (.ext 44 0),oj 50 (.ext 44 1),oj 15 (.mv 49),oj 16 (.mv 50)]
def r9_7:List J:=[oj 51 (.mv 10),oj 52 (.bin .neq 51 (ci 0)),oj 53 (.mv 52),.lg true 53 56 none [.op ⟨some 54,(some (53,false)),.mv 12⟩,.op ⟨some 55,(some (53,false)),.bin .neq 54 (ci 0)⟩] 55]
def r9_8:List J:=[oj 57 (.mv 14),oj 58 (.bin .neq 57 (ci 0)),oj 59 (.mv 58),.lg false 59 62 none [.op ⟨some 60,(some (59,true)),.mv 16⟩,.op ⟨some 61,(some (59,true)),.bin .neq 60 (ci 0)⟩] 61,oj 63 (.mv 62),.lg false 63 67 none [.op ⟨some 64,(some (63,true)),.mv 13⟩,.op ⟨some 65,(some (63,true)),.len 64⟩,.op ⟨some 66,(some (63,true)),.bin .eql 65 (ci 0)⟩] 66,oj 68 (.mv 67),.lg false 68 72 none [.op ⟨some 69,(some (68,true)),.mv 15⟩,.op ⟨some 70,(some (68,true)),.len 69⟩,.op ⟨some 71,(some (68,true)),.bin .eql 70 (ci 0)⟩] 71,oj 73 (.mv 72),.lg false 73 75 none [.op ⟨some 74,(some (73,true)),.call 47 []⟩] 74,oj 8 (.mv 75)]
def r9_9:List J:=[oj 76 (.mv 1),oj 77 (.mv 2),oj 78 (.call 48 [76,77]),oj 17 (.mv 78)]
def Z0lj:List J:=[oj 79 (.mv 17),oj 80 (.bin .lss 79 (ci 0))]
def Z0lk:List J:=[oj 81 (.mv 1),oj 18 (.mv 81)]
def Z0ll:List J:=[oj 82 (.mv 2),oj 83 (.len 82),oj 84 (.mv 1),oj 85 (.len 84),oj 86 (.bin .gtr 83 85)]
def Z0lm:List J:=[oj 87 (.mv 2),oj 18 (.mv 87)]
def Z0ln:List J:=[oj 88 (.mv 14),oj 89 (.bin .eql 88 (ci 0)),oj 90 (.mv 89),.lg false 90 93 none [.op ⟨some 91,(some (90,true)),.mv 16⟩,.op ⟨some 92,(some (90,true)),.bin .eql 91 (ci 0)⟩] 92,oj 94 (.mv 93),.lg false 94 98 none [.op ⟨some 95,(some (94,true)),.mv 13⟩,.op ⟨some 96,(some (94,true)),.mv 18⟩,.op ⟨some 97,(some (94,true)),.call 43 [95,96]⟩] 97,oj 99 (.mv 98),.lg false 99 103 none [.op ⟨some 100,(some (99,true)),.mv 15⟩,.op ⟨some 101,(some (99,true)),.mv 18⟩,.op ⟨some 102,(some (99,true)),.call 43 [100,101]⟩] 102,oj 104 (.mv 103),.lg false 104 106 none [.op ⟨some 105,(some (104,true)),.call 47 []⟩] 105,oj 8 (.mv 106)]
def Z0lo:List J:=[oj 107 (.mv 14),oj 108 (.bin .neq 107 (ci 171)),oj 109 (.mv 108),.lg true 109 112 none [.op ⟨some 110,(some (109,false)),.mv 16⟩,.op ⟨some 111,(some (109,false)),.bin .neq 110 (ci 171)⟩] 111,oj 113 (.mv 112),.lg true 113 118 none [.op ⟨some 114,(some (113,false)),.mv 17⟩,.op ⟨some 115,(some (113,false)),.mv 9⟩,.op ⟨some 116,(some (113,false)),.len 115⟩,.op ⟨some 117,(some (113,false)),.bin .geq 114 116⟩] 117,oj 119 (.mv 118),.lg true 119 128 none [.op ⟨some 120,(some (119,false)),.mv 1⟩,.op ⟨some 121,(some (119,false)),.mv 17⟩,.op ⟨some 122,(some (119,false)),.ias 97 120 121⟩,.op ⟨some 123,(some (119,false)),.fa 0 122⟩,.op ⟨some 124,(some (119,false)),.ld 1 false 123⟩,.op ⟨some 125,(some (119,false)),.mv 17⟩,.op ⟨some 126,(some (119,false)),.bin .add 125 (ci 1)⟩,.op ⟨some 127,(some (119,false)),.bin .neq 124 126⟩] 127,oj 129 (.mv 128),.lg true 129 138 none [.op ⟨some 130,(some (129,false)),.mv 2⟩,.op ⟨some 131,(some (129,false)),.mv 17⟩,.op ⟨some 132,(some (129,false)),.ias 97 130 131⟩,.op ⟨some 133,(some (129,false)),.fa 0 132⟩,.op ⟨some 134,(some (129,false)),.ld 1 false 133⟩,.op ⟨some 135,(some (129,false)),.mv 17⟩,.op ⟨some 136,(some (129,false)),.bin .add 135 (ci 1)⟩,.op ⟨some 137,(some (129,false)),.bin .neq 134 136⟩] 137]
def Z0lp:List J:=[oj 8 (.mv (.const (.bool false)))]
def Z0lq:Sch:=(.p [0] (oj 139 (.mv 9)) (.p [1] (oj 140 (.mv 17)) (.p [2] (oj 141 (.ias 32 139 140)) (.p [4] (oj 143 (.mv 1)) (.p [5] (oj 144 (.mv 17)) (.p [6] (oj 145 (.ias 97 143 144)) (.p [9] (oj 148 (.mv 1)) (.p [10] (oj 149 (.mv 17)) (.p [11] (oj 150 (.ias 97 148 149)) (.p [12] (oj 151 (.fa 33 150)) (.q [3] (oj 142 (.ld 32 true 141)) (.q [7] (oj 146 (.ld 97 true 145)) (.q [13] (oj 152 (.ld 64 true 151)) (.e 8 (oi 147 (.call 29 [146])) (.e 14 (oi 153 (.call 25 [142,147,152])) (.p [15] (oj 154 (.mv 153)) (.p [16] (.op ⟨some 155,(some (154,true)),.mv 9⟩) (.p [17] (.op ⟨some 156,(some (154,true)),.mv 17⟩) (.p [18] (.op ⟨some 157,(some (154,true)),.ias 32 155 156⟩) (.p [20] (.op ⟨some 159,(some (154,true)),.mv 2⟩) (.p [21] (.op ⟨some 160,(some (154,true)),.mv 17⟩) (.p [22] (.op ⟨some 161,(some (154,true)),.ias 97 159 160⟩) (.p [25] (.op ⟨some 164,(some (154,true)),.mv 2⟩) (.p [26] (.op ⟨some 165,(some (154,true)),.mv 17⟩) (.p [27] (.op ⟨some 166,(some (154,true)),.ias 97 164 165⟩) (.p [28] (.op ⟨some 167,(some (154,true)),.fa 33 166⟩) (.q [19] (.op ⟨some 158,(some (154,true)),.ld 32 true 157⟩) (.q [23] (.op ⟨some 162,(some (154,true)),.ld 97 true 161⟩) (.q [29] (.op ⟨some 168,(some (154,true)),.ld 64 true 167⟩) (.e 24 ⟨some 163,(some (154,true)),.call 29 [162]⟩ (.e 30 ⟨some 169,(some (154,true)),.call 25 [158,163,168]⟩ (.p [31] (oj 170 (.pick 154 169 (.const (.bool false)))) (.p [32] (oj 171 (.mv 170)) (.p [33,34] (.lg false 171 173 none [.op ⟨some 172,(some (171,true)),.call 47 []⟩] 172) (.p [35] (oj 8 (.mv 173)) .nil)))))))))))))))))))))))))))))))))))
def d9:FnD:=⟨174,[.tmp 8],(.seq (.ops r9_0) (.seq (.seq (.ops r9_1) (.cond 24 (.seq (.ops r9_2) .ret) .skip)) (.seq (.ops r9_3) (.seq (.ops r9_4) (.seq (.ops r9_5) (.seq (.ops r9_6) (.seq (.seq (.ops r9_7) (.cond 56 (.seq (.ops r9_8) .ret) .skip)) (.seq (.ops r9_9) (.seq (.seq (.ops Z0lj) (.cond 80 (.seq (.ops Z0lk) (.seq (.seq (.ops Z0ll) (.cond 86 (.ops Z0lm) .skip)) (.seq (.ops Z0ln) .ret))) .skip)) (.seq (.seq (.ops Z0lo) (.cond 138 (.seq (.ops Z0lp) .ret) .skip)) (.seq (.draw Z0lq []) .ret)))))))))))⟩
theorem ok9:okF Tryz.prog 9 d9=true:=by kernel_rfl
def Z031:List J:=[oj 7 (.ld 32 true 1),oj 4 (.al 29 [.ints .u8 32 (List.replicate 32 0)]),on_ (.st 32 4 7)]
def Z032:List J:=[oj 8 (.ld 1 false 2),oj 9 (.len 8),oj 10 (.mv (ci 0))]
def Z033:List J:=[oj 11 (.bin .lss 10 9)]
def Z034:List J:=[oj 12 (.ias 97 8 10),oj 13 (.ld 97 true 12),oj 6 (.al 51 [.one (.int .i64 0),.ints .u8 32 (List.replicate 32 0),.ints .u8 64 (List.replicate 64 0)]),on_ (.st 97 6 13)]
def Z035:List J:=[oj 14 (.mv 0),oj 15 (.ld 32 true 4),oj 16 (.ld 97 true 6),oj 17 (.cv 14 [15,16]),oj 18 (.un .not 17)]
def Z036:List J:=[oj 19 (.fa 1 6),oj 20 (.ld 32 true 19),on_ (.st 32 4 20)]
def Zxa:IC:=(.seq (.ops Z034) (.seq (.seq (.ops Z035) (.cond 18 .ret .skip)) (.ops Z036)))
def Z037:List J:=[oj 21 (.bin .add 10 (ci 1)),oj 10 (.mv 21)]
def Zyq:IC:=(.seq (.ops Z033) (.seq (.cond 11 .skip (.exit 0)) (.seq (.block 1 Zxa) (.ops Z037))))
def Zx9:IC:=(.loop Zyq)
def d151:FnD:=⟨22,[],(.seq (.ops Z031) (.seq (.ops Z032) (.block 0 Zx9)))⟩
theorem Z0dm:okF Tryz.prog 151 d151=true:=by kernel_rfl
theorem mo:Tryz.prog.follows .mixedOrders=true:=by kernel_rfl
theorem Zcw:ExtF Tryz.prog 158 add64Entry:=⟨Tryz.f158,Tryz.func158,by kernel_rfl,by kernel_rfl,by kernel_rfl,by kernel_rfl⟩
theorem Ztf:ExtF Tryz.prog 190 Zci:=⟨Tryz.f190,Tryz.func190,by kernel_rfl,by kernel_rfl,by kernel_rfl,by kernel_rfl⟩
end Go.Proofs.YtiflckckekjbnaaGreatDoor
namespace Go.Sx
open Go Go.RowKit
set_option linter.all false
section
variable {α:Type} {C:Cfg} {m:List Zc} {t:TS} {K:KN} {E:El α} {v:Value} {xs:List α}
theorem Zq1 {W:World} (h:RdSl E W v xs) (hn:Zfk v=true):xs = []:=by
  rcases h with ⟨_,h2⟩ | ⟨b,o,cp,h1,_,_⟩ | ⟨a,_,h2⟩
  · exact h2
  · subst h1; simp [Zfk] at hn
  · exact h2
end
end Go.Sx
namespace Go.Proofs.YtiflckckekjbnaaGreatDoor
open Go Go.Sx Go.RowKit
set_option linter.all false
set_option maxHeartbeats 400000
set_option maxRecDepth 100000
theorem Zdn {W:World} {p0:List Int} {v1:Value} (hv:Zcu v1) :
    Calls Tryz.prog 82 [agg [.ints .u8 32 (p0)],v1].toArray W (Zdw W [] (fun v Ms=>∃ (b1:Nat) (T1:TypeId) (b2:Nat) (T2:TypeId),v = .func (.func 151) #[] #[.pointer (some ⟨b1,0,none⟩),.pointer (some ⟨b2,0,none⟩)]∧Ms = [.one (ck b1 T1 [.ints .u8 32 (p0)]),.one (ck b2 T2 [.one v1])])):=by
  refine Z0o mo ok82 rfl (Zh8 _) ?_
  refine Z0<|Z2<|Zg (Z16 (s:=[.ints .u8 32 (p0)]) rfl fun b1 hb1=>Zg (Zwi rfl (Zcu.cells hv) fun b2 hb2=>Z6 _ (Z15 rfl)<|Z1<|Z0<|Z2<|Z6 _ (q_mf rfl)<|Z6 _ (Z15 rfl)<|Z1<|Zk ?_))
  exact ⟨_,_,.cons (.tmp rfl) .nil,.one (.there .here) (.one .here .nil),⟨_,rfl,b1,29,b2,56,rfl,rfl⟩⟩
def ng:Nat:=5
def G_order:List Int:=[6346243789798364141,1503914060200516822,0,1152921504606846976]
def G_first:List Int:=[7640891576956012808,13503953896175478587,4354685564936845355,11912009170470909681,5840696475078001361,11170449401992604703,2270897969802886507,6620516959819538809]
def G_table:List Int:=[4794697086780616226,8158064640168781261,13096744586834688815,16840607885511220156,4131703408338449720,6480981068601479193,10538285296894168987,12329834152419229976,15566598209576043074,1334009975649890238,2608012711638119052,6128411473006802146,8268148722764581231,9286055187155687089,11230858885718282805,13951009754708518548,16472876342353939154,17275323862435702243,1135362057144423861,2597628984639134821,3308224258029322869,5365058923640841347,6679025012923562964,8573033837759648693,10970295158949994411,12119686244451234320,12683024718118986047,13788192230050041572,14330467153632333762,15395433587784984357,489312712824947311,1452737877330783856,2861767655752347644,3322285676063803686,5560940570517711597,5996557281743188959,7280758554555802590,8532644243296465576,9350256976987008742,10552545826968843579,11727347734174303076,12113106623233404929,14000437183269869457,14369950271660146224,15101387698204529176,15463397548674623760,17586052441742319658,1182934255886127544,1847814050463011016,2177327727835720531,2830643537854262169,3796741975233480872,4115178125766777443,5681478168544905931,6601373596472566643,7507060721942968483,8399075790359081724,8693463985226723168,9568029438360202098,10144078919501101548,10430055236837252648,11840083180663258601,13761210420658862357,14299343276471374635,14566680578165727644,15097957966210449927,16922976911328602910,17689382322260857208,500013540394364858,748580250866718886,1242879168328830382,1977374033974150939,2944078676154940804,3659926193048069267,4368137639120453308,4836135668995329356,5532061633213252278,6448918945643986474,6902733635092675308,7801388544844847127]
structure Globs (W:World):Prop where
  g1:Mem W 1 0 [.ints .u64 4 G_order]
  g2:Mem W 2 0 [.ints .u64 8 G_first]
  g4:Mem W 4 0 [.ints .u64 80 G_table]
theorem Globs.at {C:Cfg} {m:List Zc} {w:World} (h:Globs C.W0) (hw:Sat C.W0 C.S m w) (hS : ∀ g,g<ng→g∉C.S):Globs w:=⟨Zfm h.g1 (hS 1 (by decide)) hw,Zfm h.g2 (hS 2 (by decide)) hw,Zfm h.g4 (hS 4 (by decide)) hw⟩
theorem Globs.ap {C:Cfg} {m:List Zc} {w:World} {b:Nat} {o:Obj} (h:Globs C.W0) (hS : ∀ g,g<ng→g∉C.S) (hb:Has b o m) (hw:Sat C.W0 C.S m w) : ∀ g,g<ng→g ∉ [b]:=by
  intro g hg hm
  simp only [List.mem_singleton] at hm
  subst hm
  rcases hw.base _ hb.mem with h1 | h1
  · have h2:=h.g4.lt
    have h3:ng=5:=rfl
    simp only at h1
    omega
  · exact hS _ hg h1
structure Zj where
  gstate:List Int
  gheld:List Int
  ghave:Int
  glength:Int
def Z90:Option (Zj) :=
 some (⟨G_first,(List.replicate 128 0),0,0⟩:Zj)
theorem Zbw {W:World} {r:Zj} (h:Z90=some r) (hG:Globs W) :
    Calls Tryz.prog 96 [].toArray W (Zdw W [] (fun v Ms=>∃ (b0:Nat) (T0:TypeId),v = .pointer (some ⟨b0,0,none⟩)∧Ms = [.one (ck b0 T0 [.ints .u64 8 (r.gstate),.ints .u8 128 (r.gheld),.one (.int .i64 (r.ghave)),.one (.int .u64 (r.glength))])])):=by
 unfold Z90 at h
 refine Z0o mo ok96 rfl (Zh8 _) ?_
 refine Z0<|Z2<|Z7 rfl<|Z1<|Z0<|Z2<|Z6 _ (Zm8 (o0:=0) (off:=0) rfl (hG.g2) (by simp) rfl)<|Z6 _ (Zdv (q:=[.ints .u64 8 (G_first),.ints .u8 128 ((List.replicate 128 0)),.one (.int .i64 (0)),.one (.int .u64 (0))]) (.agg rfl rfl rfl BdR.nil))<|Zg (Z16 (s:=[.ints .u64 8 (G_first),.ints .u8 128 ((List.replicate 128 0)),.one (.int .i64 (0)),.one (.int .u64 (0))]) rfl fun b3 hb3=>Z7 rfl<|Z1<|Zk ?_)
 revert h; refine Zy fun h=>?_
 subst h
 exact ⟨_,_,(.cons (.tmp rfl) .nil),(.one .here .nil),⟨_,rfl,⟨b3,194,rfl,rfl⟩⟩⟩
def Z66 (k29:(Int)→Option (Int)) (k45:(Int)→(Int)→Option (Int)) (i43:Int) (i44:Int):Option (Int) :=
 br ((i44 != 0)) (
 bnd (IntKind.wrap .i64 (i43+1)) fun z50 =>
 bnd (Zi .u64 i44 1) fun z52 =>
 k45 z50 z52
 ) (
 k29 i43
 )
def Z35 (k29:(Int)→Option (Int)):Nat→(Int)→(Int)→Option (Int)
  | 0,_,_=>none
  | n+1,i43,i44=>Z66 k29 (Z35 k29 n) i43 i44
def Z3b:Option (Int) :=
 bnd (Z4 .xor .u64 18446744073709551615 0) fun z4 =>
 jn (fun (i28:Int)=>some i28) fun k29=>Z35 k29 big 0 z4
theorem Z3m {W:World} {r:Int} (h:Z3b=some r)  :
    Calls Tryz.prog 183 [].toArray W (Z51 W (.int .i64 (r))):=by
 unfold Z3b at h
 refine Zd mo Z0e4 rfl ?_
 refine Z0<|Z2<|Z7 rfl<|Z1<|Z0<|Z2<|Z7 rfl<|Z1<|Z0<|Z0<|bH h fun z4 ez4 h=>Z2<|Z6 _ (Z8l rfl)<|Z6 _ (iz ez4 (Zmo rfl rfl))<|Z7 rfl<|Z1<|jH h fun k29 qk29 h=>Zo (G:=fun t m=>∃ (i28:Int),k29 i28=some r∧Fit [(1,.int .i64 (i28))] [] t m) ?_ ?_
 ·refine Zb<|Z01 (fun n46 t m=>∃ (i43:Int) (i44:Int),Z35 k29 n46 i43 i44=some r∧Fit [(1,.int .i64 (i43)),(2,.int .u64 (i44))] [] t m) big ?_ ?_
  ·exact ⟨0,z4,h,⟨⟨rfl,rfl,trivial⟩,.nil⟩⟩
  ·rintro n46 t m ⟨i43,i44,h,hF⟩
   refine Zn hF ?_
   clear hF
   rcases n46 with _ | n46
   · exact Z1d h
   have h:Z66 k29 (Z35 k29 n46) i43 i44=some r:=h
   unfold Z66 at h
   obtain ⟨k45,qk45⟩ : ∃ k,k=Z35 k29 n46:=⟨_,rfl⟩
   try rw [← qk45] at h
   refine Z0<|Z0<|Z2<|Z7 rfl<|Z6 _ (Za rfl rfl rfl)<|Z1<|Z0s h rfl (fun h=>?_) (fun h=>?_)
   ·refine Zm<|Z0<|Zb<|bH h fun z50 ez50 h=>Z2<|Z7 rfl<|Z6 _ (iz ez50 (Za rfl rfl rfl))<|Z7 rfl<|Z1<|bH h fun z52 ez52 h=>Z2<|Z7 rfl<|Z6 _ (iz ez52 (Z7a rfl rfl (by decide)))<|Z7 rfl<|Z1 ?_
    rw [qk45] at h
    exact ⟨n46,Nat.lt_succ_self _,z50,z52,h,⟨⟨rfl,rfl,trivial⟩,.nil⟩⟩
   ·exact Z0e _ rfl<|⟨i43,h,⟨⟨rfl,trivial⟩,.nil⟩⟩
 ·rintro t m ⟨i28,h,hF⟩
  refine Zn hF ?_
  clear hF
  subst qk29
  refine Z0<|Z2<|Z7 rfl<|Z7 rfl<|Z1<|Zk ?_
  revert h; refine Zy fun h=>?_
  subst h
  exact ⟨_,(.cons (.tmp rfl) .nil),rfl⟩
def Z5y (p0:List Int) (p1:Int):Option ((Bool×List Int)) :=
 opt (Z3b) fun y3 =>
 bnd (IntKind.wrap .i64 (Int.tdiv y3 8)) fun z4 =>
 br (((decide (p1<0))||(decide (p1>IntKind.wrap .i64 ((p0.length:Int)-z4))))) (
 some (true,[])
 ) (
 bnd (IntKind.wrap .i64 (p1+z4)) fun z9 =>
 chk (Zjj p1 z9 p0.length) <|
 chk (decide (0<((p0.drop (p1).toNat).take ((z9).toNat-(p1).toNat)).length)) <|
 some (false,((p0.drop (p1).toNat).take ((z9).toNat-(p1).toNat)))
 )
theorem Z7k {W:World} {r:(Bool×List Int)} {p0:List Int} {p1:Int} {v0:Value} (h:Z5y p0 p1=some r) (A0:RdSl (El.int .u8) W v0 p0) :
    Calls Tryz.prog 203 [v0,.int .i64 (p1)].toArray W (Zdw W [] (fun v Ms=>∃ (u0:Value),v=u0∧Ms = []∧Shp u0 (r.2).length∧Zfk u0=r.1∧(∀ W,RdSl (El.int .u8) W v0 p0→RdSl (El.int .u8) W u0 r.2))):=by
 unfold Z5y at h
 refine Z0o mo Z0ee rfl (Zh8 _) ?_
 refine Z0<|Z2<|Z7 rfl<|Z1<|Z0<|oH h fun y3 ey3 h=>bH h fun z4 ez4 h=>Z2<|Z6 _ (Z1a rfl (Z3m ey3))<|Z6 _ (iz ez4 (Ziv rfl rfl (by decide)))<|Z7 rfl<|Z1<|Z0<|Z0<|Z2<|Z7 rfl<|Z6 _ (Za rfl rfl rfl)<|Z7 rfl<|Zee rfl rfl rfl (fun hg1=>Z2s rfl _ (Z15 rfl) (Z2s rfl _ (Z15 rfl) (Z2s rfl _ (Z2r rfl (Shp.rd A0)) (Z2s rfl _ (Z15 rfl) (Z2s rfl _ (iz rfl (Za rfl rfl rfl)) (Z2s rfl _ (Za rfl rfl rfl) (Z1u))))))) (fun hg1=>rfl) rfl<|Z1<|Z0s h rfl (fun h=>?_) (fun h=>?_)
 ·refine Z0<|Z2<|Z7 rfl<|Z1<|Zk ?_
  revert h; refine Zy fun h=>?_
  subst h
  exact ⟨_,_,(.cons (.tmp rfl) .nil),.nil,⟨_,rfl,⟨(.slice none 0 0),rfl,rfl,Shp.nil,rfl,Zqw⟩⟩⟩
 ·refine Zm<|Z0<|bH h fun z9 ez9 h=>cH h fun c10 h=>Z2<|Z7 rfl<|Z7 rfl<|Z7 rfl<|Z7 rfl<|Z6 _ (iz ez9 (Za rfl rfl rfl))<|Z6 _ (Zry (lz:=p1) (hz:=z9) rfl (Shp.rd A0) (.yes rfl) (.yes rfl) c10)<|Z7 rfl<|Z1<|Zk<|cH h fun c11 h=>?_
  revert h; refine Zy fun h=>?_
  subst h
  exact ⟨_,_,(.cons (.tmp rfl) .nil),.nil,⟨_,rfl,⟨(Zbe 1 v0 (p1).toNat (z9).toNat),rfl,rfl,(Shp.cut (Shp.rd A0) (lz:=p1) (hz:=z9) c10),(Shp.notnil (Shp.cut (Shp.rd A0) (lz:=p1) (hz:=z9) c10) c11),(fun W A0=>(Z0a5 A0 (lz:=p1) (hz:=z9) c10))⟩⟩⟩
def Z5b (y4:(Bool×List Int)) (k50:(Int)→Option (Int×Bool)) (k75:(Int)→(Int)→Option (Int×Bool)) (i73:Int) (i74:Int):Option (Int×Bool) :=
 br ((decide (i74<(y4.2.length:Int)))) (
 chk (inB i74 y4.2.length) <|
 bnd (y4.2.getD (i74).toNat 0) fun z81 =>
 bnd (Zq .u64 i73 8) fun z83 =>
 bnd (IntKind.wrap .u64 z81) fun z84 =>
 bnd (Z4 .or .u64 z83 z84) fun z85 =>
 bnd (IntKind.wrap .i64 (i74+1)) fun z87 =>
 k75 z85 z87
 ) (
 k50 i73
 )
def Z2k (y4:(Bool×List Int)) (k50:(Int)→Option (Int×Bool)):Nat→(Int)→(Int)→Option (Int×Bool)
  | 0,_,_=>none
  | n+1,i73,i74=>Z5b y4 k50 (Z2k y4 k50 n) i73 i74
def Z71 (p0:List Int) (p1:Int):Option (Int×Bool) :=
 opt (Z5y p0 p1) fun y4 =>
 jn (fun (i49:Int)=>some (i49,(!y4.1))) fun k50=>Z2k y4 k50 big 0 0
theorem Zao {W:World} {r:Int×Bool} {p0:List Int} {p1:Int} {v0:Value} (h:Z71 p0 p1=some r) (A0:RdSl (El.int .u8) W v0 p0) :
    Calls Tryz.prog 218 [v0,.int .i64 (p1)].toArray W (Z51 W (.tuple #[.int .u64 (r.1),.bool (r.2)])):=by
 unfold Z71 at h
 refine Zd mo Z0ei rfl ?_
 refine Z0<|Z2<|Z7 rfl<|Z7 rfl<|Z1<|Z0<|Z2<|Z7 rfl<|Z1<|Z0<|oH h fun y4 ey4 h=>Z2<|Z7 rfl<|Z7 rfl<|Zg (Z00 rfl (fun w hw=>Z7k  ey4 ((Z0a A0 Z0h) w hw)) fun v5 Msv5 R6=>?_)
 obtain ⟨_,rfl,rfl,P10,N8,H9⟩:=R6
 refine Z7 rfl<|Z1<|Z0<|Z0<|Z2<|Z7 rfl<|Z6 _ (Z2r rfl P10)<|Z7 rfl<|Z1<|jH h fun k50 qk50 h=>Zo (G:=fun t m=>∃ (i49:Int),k50 i49=some r∧Fit [(6,.int .u64 (i49)),(7,v5)] [] t m) ?_ ?_
 ·refine Zb<|Z01 (fun n76 t m=>∃ (i73:Int) (i74:Int),Z2k y4 k50 n76 i73 i74=some r∧Fit [(6,.int .u64 (i73)),(7,v5),(13,v5),(14,.int .i64 ((y4.2.length:Int))),(15,.int .i64 (i74))] [] t m) big ?_ ?_
  ·exact ⟨0,0,h,⟨⟨rfl,rfl,rfl,rfl,rfl,trivial⟩,.nil⟩⟩
  ·rintro n76 t m ⟨i73,i74,h,hF⟩
   refine Zn hF ?_
   clear hF
   rcases n76 with _ | n76
   · exact Z1d h
   have h:Z5b y4 k50 (Z2k y4 k50 n76) i73 i74=some r:=h
   unfold Z5b at h
   obtain ⟨k75,qk75⟩ : ∃ k,k=Z2k y4 k50 n76:=⟨_,rfl⟩
   try rw [← qk75] at h
   refine Z0<|Z2<|Z6 _ (Za rfl rfl rfl)<|Z1<|Z0<|Z0s h rfl (fun h=>?_) (fun h=>?_)
   ·refine Zm<|Z0<|Zb<|Z0<|cH h fun c80 h=>bH h fun z81 ez81 h=>Z2<|Z6 _ (Z3a rfl rfl P10 c80)<|Z6 _ (iz ez81 (Z9y (E:=(El.int .u8)) (s:=[.one (.int .u8 (y4.2.getD (i74).toNat 0))]) rfl (Zo8 H9 (Z0a A0 Z0h)) (Z0w c80) rfl rfl))<|Z7 rfl<|Z1<|bH h fun z83 ez83 h=>bH h fun z84 ez84 h=>bH h fun z85 ez85 h=>Z2<|Z7 rfl<|Z6 _ (iz ez83 (Zhv rfl rfl (by decide)))<|Z7 rfl<|Z6 _ (iz ez84 (Z8l rfl))<|Z6 _ (iz ez85 (Za rfl rfl rfl))<|Z7 rfl<|Z1<|bH h fun z87 ez87 h=>Z2<|Z6 _ (iz ez87 (Za rfl rfl rfl))<|Z7 rfl<|Z1 ?_
    rw [qk75] at h
    exact ⟨n76,Nat.lt_succ_self _,z85,z87,h,⟨⟨rfl,rfl,rfl,rfl,rfl,trivial⟩,.nil⟩⟩
   ·exact Z0e _ rfl<|⟨i73,h,⟨⟨rfl,rfl,trivial⟩,.nil⟩⟩
 ·rintro t m ⟨i49,h,hF⟩
  refine Zn hF ?_
  clear hF
  subst qk50
  refine Z0<|Z2<|Z7 rfl<|Z7 rfl<|Z6 _ (Zl9 rfl P10 N8)<|Z7 rfl<|Z7 rfl<|Z1<|Zk ?_
  revert h; refine Zy fun h=>?_
  subst h
  exact ⟨_,(.cons (.tmp rfl) (.cons (.tmp rfl) .nil)),rfl⟩
def Z2y (p0:Int) (p1:Int):Option (Int) :=
 opt (Z3b) fun y3 =>
 bnd (IntKind.wrap .u64 p1) fun z5 =>
 bnd (IntKind.wrap .i64 (y3-1)) fun z6 =>
 bnd (IntKind.wrap .u64 z6) fun z7 =>
 bnd (Z4 .and .u64 z5 z7) fun z8 =>
 chk (decide (0≤z8)) <|
 bnd (Zi .u64 p0 z8) fun z11 =>
 bnd (IntKind.wrap .u64 y3) fun z12 =>
 bnd (IntKind.wrap .u64 (z12-z8)) fun z13 =>
 chk (decide (0≤z13)) <|
 bnd (Zq .u64 p0 z13) fun z15 =>
 bnd (Z4 .or .u64 z11 z15) fun z16 =>
 some z16
theorem Z2m {W:World} {r:Int} {p0:Int} {p1:Int} (h:Z2y p0 p1=some r)  :
    Calls Tryz.prog 220 [.int .u64 (p0),.int .i64 (p1)].toArray W (Z51 W (.int .u64 (r))):=by
 unfold Z2y at h
 refine Zd mo Z0ek rfl ?_
 refine Z0<|Z2<|Z7 rfl<|Z1<|Z0<|oH h fun y3 ey3 h=>Z2<|Z6 _ (Z1a rfl (Z3m ey3))<|Z7 rfl<|Z1<|Z0<|bH h fun z5 ez5 h=>bH h fun z6 ez6 h=>bH h fun z7 ez7 h=>bH h fun z8 ez8 h=>Z2<|Z7 rfl<|Z6 _ (iz ez5 (Z8l rfl))<|Z7 rfl<|Z6 _ (iz ez6 (Za rfl rfl rfl))<|Z6 _ (iz ez7 (Z8l rfl))<|Z6 _ (iz ez8 (Za rfl rfl rfl))<|Z7 rfl<|Z1<|Z0<|cH h fun c10 h=>bH h fun z11 ez11 h=>bH h fun z12 ez12 h=>bH h fun z13 ez13 h=>cH h fun c14 h=>bH h fun z15 ez15 h=>bH h fun z16 ez16 h=>Z2<|Z7 rfl<|Z7 rfl<|Z6 _ (iz ez11 (Z7a rfl rfl (of_decide_eq_true c10)))<|Z7 rfl<|Z7 rfl<|Z6 _ (iz ez12 (Z8l rfl))<|Z7 rfl<|Z6 _ (iz ez13 (Za rfl rfl rfl))<|Z6 _ (iz ez15 (Zhv rfl rfl (of_decide_eq_true c14)))<|Z6 _ (iz ez16 (Za rfl rfl rfl))<|Z7 rfl<|Z1<|Zk ?_
 revert h; refine Zy fun h=>?_
 subst h
 exact ⟨_,(.cons (.tmp rfl) .nil),rfl⟩
def Zav (p0:Int) (p1:Int) (p2:Int) (p3:Int):Option (Int) :=
 opt (Z2y p0 p1) fun y3 =>
 opt (Z2y p0 p2) fun y4 =>
 bnd (Z4 .xor .u64 y3 y4) fun z5 =>
 chk (decide (0≤p3)) <|
 bnd (Zi .u64 p0 p3) fun z7 =>
 bnd (Z4 .xor .u64 z5 z7) fun z8 =>
 some z8
theorem Zb6 {W:World} {r:Int} {p0:Int} {p1:Int} {p2:Int} {p3:Int} (h:Zav p0 p1 p2 p3=some r)  :
    Calls Tryz.prog 219 [.int .u64 (p0),.int .i64 (p1),.int .i64 (p2),.int .i64 (p3)].toArray W (Z51 W (.int .u64 (r))):=by
 unfold Zav at h
 refine Zd mo Z0ej rfl ?_
 refine Z0<|Z2<|Z7 rfl<|Z1<|Z0<|oH h fun y3 ey3 h=>oH h fun y4 ey4 h=>bH h fun z5 ez5 h=>cH h fun c6 h=>bH h fun z7 ez7 h=>bH h fun z8 ez8 h=>Zv<|Z8 _ (Z15 rfl)<|Z8 _ (Z15 rfl)<|Z8 _ (Z1a rfl (Z2m ey3))<|Z8 _ (Z15 rfl)<|Z8 _ (Z15 rfl)<|Z8 _ (Z1a rfl (Z2m ey4))<|Z8 _ (iz ez5 (Za rfl rfl rfl))<|Z8 _ (Z15 rfl)<|Z8 _ (Z15 rfl)<|Z8 _ (iz ez7 (Z7a rfl rfl (of_decide_eq_true c6)))<|Z8 _ (iz ez8 (Za rfl rfl rfl))<|Z8 _ (Z15 rfl)<|Z05<|Zk ?_
 revert h; refine Zy fun h=>?_
 subst h
 exact ⟨_,(.cons (.tmp rfl) .nil),rfl⟩
def Z7f (p0:List Int) (k152:(List Int)→OL) (k233:(Int)→(List Int)→OL) (i231:Int) (a232:List Int):OL :=
 br ((decide (i231<80))) (
 jn (fun (a265:List Int)=>bnd (IntKind.wrap .i64 (i231+1)) fun z296 =>
 k233 z296 a265) fun k266=>br ((decide (i231<16))) (
 bnd (IntKind.wrap .i64 (8*i231)) fun z271 =>
 opt (Z71 (tk p0 0 128) z271) fun y272 =>
 chk (inB i231 80) <|
 bnd (Z4q a232 (i231).toNat y272.1) fun l274 =>
 k266 l274
 ) (
 bnd (IntKind.wrap .i64 (i231-2)) fun z276 =>
 chk (inB z276 80) <|
 bnd (IntKind.wrap .i64 (i231-7)) fun z278 =>
 chk (inB z278 80) <|
 bnd (IntKind.wrap .i64 (i231-15)) fun z280 =>
 chk (inB z280 80) <|
 bnd (IntKind.wrap .i64 (i231-16)) fun z282 =>
 chk (inB z282 80) <|
 bnd (a232.getD (z276).toNat 0) fun z284 =>
 opt (Zav z284 19 61 6) fun y285 =>
 bnd (a232.getD (z278).toNat 0) fun z286 =>
 bnd (IntKind.wrap .u64 (y285+z286)) fun z287 =>
 bnd (a232.getD (z280).toNat 0) fun z288 =>
 opt (Zav z288 1 8 7) fun y289 =>
 bnd (IntKind.wrap .u64 (z287+y289)) fun z290 =>
 bnd (a232.getD (z282).toNat 0) fun z291 =>
 bnd (IntKind.wrap .u64 (z290+z291)) fun z292 =>
 chk (inB i231 80) <|
 bnd (Z4q a232 (i231).toNat z292) fun l294 =>
 k266 l294
 )
 ) (
 k152 a232
 )
def Z3y (p0:List Int) (k152:(List Int)→OL):Nat→(Int)→(List Int)→OL
  | 0,_,_=>none
  | n+1,i231,a232=>Z7f p0 k152 (Z3y p0 k152 n) i231 a232
def Z9h (p0:List Int):OL :=
 jn (fun (a151:List Int)=>some a151) fun k152=>Z3y p0 k152 big 0 (List.replicate 80 0)
theorem Zcn {W:World} {r:(List Int)} {p0:List Int} (h:Z9h p0=some r)  :
    Calls Tryz.prog 201 [agg [.ints .u8 128 (p0)]].toArray W (Z51 W (agg [.ints .u64 80 (r)])):=by
 unfold Z9h at h
 refine Zd mo Z0ec rfl ?_
 refine Z0<|Z2<|Zg (Z16 (s:=[.ints .u8 128 (p0)]) rfl fun b2 hb2=>Zg (Zx fun b3 hb3=>Z1<|Z0<|Z2<|Zg (Zx fun b5 hb5=>Z1<|Z0<|Z0<|Z2<|Z7 rfl<|Z1<|jH h fun k152 qk152 h=>Zo (G:=fun t m=>∃ (a151:List Int),k152 a151=some r∧Fit [(2,.pointer (some ⟨b3,0,none⟩)),(3,.pointer (some ⟨b5,0,none⟩))] (ck b5 211 [.ints .u64 80 (a151)]::(ck b3 211 [.ints .u64 80 ((List.replicate 80 0))]::(ck b2 192 [.ints .u8 128 (p0)] :: []))) t m) ?_ ?_)))
 ·refine Zb<|Z01 (fun n234 t m=>∃ (i231:Int) (a232:List Int),Z3y p0 k152 n234 i231 a232=some r∧Fit [(1,.pointer (some ⟨b2,0,none⟩)),(2,.pointer (some ⟨b3,0,none⟩)),(3,.pointer (some ⟨b5,0,none⟩)),(5,.int .i64 (i231))] (ck b5 211 [.ints .u64 80 (a232)]::(ck b3 211 [.ints .u64 80 ((List.replicate 80 0))]::(ck b2 192 [.ints .u8 128 (p0)] :: []))) t m) big ?_ ?_
  ·exact ⟨0,(List.replicate 80 0),h,⟨⟨rfl,rfl,rfl,rfl,trivial⟩,(.one .here (.one .here (.one .here .nil)))⟩⟩
  ·rintro n234 t m ⟨i231,a232,h,hF⟩
   refine Zn hF ?_
   clear hF
   rcases n234 with _ | n234
   · exact Z1d h
   have h:Z7f p0 k152 (Z3y p0 k152 n234) i231 a232=some r:=h
   unfold Z7f at h
   obtain ⟨k233,qk233⟩ : ∃ k,k=Z3y p0 k152 n234:=⟨_,rfl⟩
   try rw [← qk233] at h
   refine Z0<|Z2<|Z6 _ (Za rfl rfl rfl)<|Z1<|Z0<|Z0s h rfl (fun h=>?_) (fun h=>?_)
   ·refine Zm<|Z0<|jH h fun k266 qk266 h=>Zo (G:=fun t m=>∃ (a265:List Int),k266 a265=some r∧Fit [(1,.pointer (some ⟨b2,0,none⟩)),(2,.pointer (some ⟨b3,0,none⟩)),(3,.pointer (some ⟨b5,0,none⟩)),(5,.int .i64 (i231))] (ck b5 211 [.ints .u64 80 (a265)]::(ck b3 211 [.ints .u64 80 ((List.replicate 80 0))]::(ck b2 192 [.ints .u8 128 (p0)] :: []))) t m) ?_ ?_
    ·refine Zb<|Z0<|Z2<|Z7 rfl<|Z7 rfl<|Z1<|Z0<|Z0<|Z2<|Z7 rfl<|Z6 _ (Za rfl rfl rfl)<|Z1<|Z0s h rfl (fun h=>?_) (fun h=>?_)
     ·exact Z0<|bH h fun z271 ez271 h=>oH h fun y272 ey272 h=>cH h fun c273 h=>bH h fun l274 el274 h=>Z2<|Z7 rfl<|Z6 _ (Z8w rfl .no .no .no (by simp) (by decide))<|Z7 rfl<|Z6 _ (iz ez271 (Za rfl rfl rfl))<|Z6 _ (Z0n rfl (fun w hw=>Zao ey272 ((Z1x (s:=[.ints .u8 128 (p0)]) (N:=128) (k:=.u8) (base:=0) (lo:=0) (hi:=128) (mz:=128) (.there (.there .here)) rfl (by decide)) w hw)))<|Z7 rfl<|Z6 _ (Z19 rfl rfl)<|Z6 _ (Z19 rfl rfl)<|Z6 _ (Z3d rfl rfl (Z1t c273))<|Zg (Z5g (q:=[.ints .u64 80 (l274)]) (base:=0) el274 rfl rfl rfl (Z0w c273) rfl .here<|Z1<|Z0e _ rfl<|⟨l274,h,⟨⟨rfl,rfl,rfl,rfl,trivial⟩,(.one .here (.one .here (.one .here .nil)))⟩⟩)
     ·exact Zm<|bH h fun z276 ez276 h=>cH h fun c277 h=>bH h fun z278 ez278 h=>cH h fun c279 h=>bH h fun z280 ez280 h=>cH h fun c281 h=>bH h fun z282 ez282 h=>cH h fun c283 h=>bH h fun z284 ez284 h=>oH h fun y285 ey285 h=>bH h fun z286 ez286 h=>bH h fun z287 ez287 h=>bH h fun z288 ez288 h=>oH h fun y289 ey289 h=>bH h fun z290 ez290 h=>bH h fun z291 ez291 h=>bH h fun z292 ez292 h=>cH h fun c293 h=>bH h fun l294 el294 h=>Zv<|Z8 _ (Z15 rfl)<|Z8 _ (Z15 rfl)<|Z8 _ (iz ez276 (Za rfl rfl rfl))<|Z8 _ (Z3d rfl rfl (Z1t c277))<|Z8 _ (Z15 rfl)<|Z8 _ (iz ez278 (Za rfl rfl rfl))<|Z8 _ (Z3d rfl rfl (Z1t c279))<|Z8 _ (Z15 rfl)<|Z8 _ (iz ez280 (Za rfl rfl rfl))<|Z8 _ (Z3d rfl rfl (Z1t c281))<|Z8 _ (Z15 rfl)<|Z8 _ (iz ez282 (Za rfl rfl rfl))<|Z8 _ (Z3d rfl rfl (Z1t c283))<|Zp _ (iz ez284 (Z8r (base:=0) rfl .here rfl (Z0w c277)))<|Z8 _ (Z1a rfl (Zb6 ey285))<|Zp _ (iz ez286 (Z8r (base:=0) rfl .here rfl (Z0w c279)))<|Z8 _ (iz ez287 (Za rfl rfl rfl))<|Zp _ (iz ez288 (Z8r (base:=0) rfl .here rfl (Z0w c281)))<|Z8 _ (Z1a rfl (Zb6 ey289))<|Z8 _ (iz ez290 (Za rfl rfl rfl))<|Zp _ (iz ez291 (Z8r (base:=0) rfl .here rfl (Z0w c283)))<|Z8 _ (iz ez292 (Za rfl rfl rfl))<|Z8 _ (Z3d rfl rfl (Z1t c293))<|Z2j rfl (Z5g (q:=[.ints .u64 80 (l294)]) (base:=0) el294 rfl rfl rfl (Z0w c293) rfl .here<|Z05<|⟨l294,h,⟨⟨rfl,rfl,rfl,rfl,trivial⟩,(.one .here (.one .here (.one .here .nil)))⟩⟩)
    ·rintro t m ⟨a265,h,hF⟩
     refine Zn hF ?_
     clear hF
     subst qk266
     refine bH h fun z296 ez296 h=>Z2<|Z6 _ (iz ez296 (Za rfl rfl rfl))<|Z7 rfl<|Z1 ?_
     rw [qk233] at h
     exact ⟨n234,Nat.lt_succ_self _,z296,a265,h,⟨⟨rfl,rfl,rfl,rfl,trivial⟩,(.one .here (.one .here (.one .here .nil)))⟩⟩
   ·exact Z0e _ rfl<|⟨a232,h,⟨⟨rfl,rfl,trivial⟩,(.one .here (.one .here (.one .here .nil)))⟩⟩
 ·rintro t m ⟨a151,h,hF⟩
  refine Zn hF ?_
  clear hF
  subst qk152
  refine Z0<|Z2<|Z6 _ (Z03 (p:=[.ints .u64 80 (a151)]) rfl .here rfl)<|Zg (Zu (q:=[.ints .u64 80 (a151)]) rfl rfl rfl rfl rfl (.there .here)<|Z1<|Zk ?_)
  revert h; refine Zy fun h=>?_
  subst h
  exact ⟨_,(.cons (.agg rfl (.there .here) rfl) .nil),rfl⟩
def Zcg (p0:Int) (p1:Int) (p2:Int) (p3:Int):Option (Int) :=
 opt (Z2y p0 p1) fun y3 =>
 opt (Z2y p0 p2) fun y4 =>
 bnd (Z4 .xor .u64 y3 y4) fun z5 =>
 opt (Z2y p0 p3) fun y6 =>
 bnd (Z4 .xor .u64 z5 y6) fun z7 =>
 some z7
theorem Zbx {W:World} {r:Int} {p0:Int} {p1:Int} {p2:Int} {p3:Int} (h:Zcg p0 p1 p2 p3=some r)  :
    Calls Tryz.prog 202 [.int .u64 (p0),.int .i64 (p1),.int .i64 (p2),.int .i64 (p3)].toArray W (Z51 W (.int .u64 (r))):=by
 unfold Zcg at h
 refine Zd mo Z0ed rfl ?_
 refine Z0<|Z2<|Z7 rfl<|Z1<|Z0<|oH h fun y3 ey3 h=>oH h fun y4 ey4 h=>bH h fun z5 ez5 h=>oH h fun y6 ey6 h=>bH h fun z7 ez7 h=>Z2<|Z7 rfl<|Z7 rfl<|Z6 _ (Z1a rfl (Z2m ey3))<|Z7 rfl<|Z7 rfl<|Z6 _ (Z1a rfl (Z2m ey4))<|Z6 _ (iz ez5 (Za rfl rfl rfl))<|Z7 rfl<|Z7 rfl<|Z6 _ (Z1a rfl (Z2m ey6))<|Z6 _ (iz ez7 (Za rfl rfl rfl))<|Z7 rfl<|Z1<|Zk ?_
 revert h; refine Zy fun h=>?_
 subst h
 exact ⟨_,(.cons (.tmp rfl) .nil),rfl⟩
def Z9f (y6:(List Int)) (k133:(Int)→(Int)→(Int)→(Int)→(Int)→(Int)→(Int)→(Int)→OL) (k208:(Int)→(Int)→(Int)→(Int)→(Int)→(Int)→(Int)→(Int)→(Int)→OL) (i199:Int) (i200:Int) (i201:Int) (i202:Int) (i203:Int) (i204:Int) (i205:Int) (i206:Int) (i207:Int):OL :=
 br ((decide (i207<80))) (
 chk (inB i207 80) <|
 bnd (G_table.getD (i207).toNat 0) fun z214 =>
 opt (Zcg i203 14 18 41) fun y216 =>
 bnd (IntKind.wrap .u64 (i206+y216)) fun z217 =>
 bnd (Z4 .and .u64 i203 i204) fun z218 =>
 bnd (Z4 .xor .u64 18446744073709551615 i203) fun z219 =>
 bnd (Z4 .and .u64 z219 i205) fun z220 =>
 bnd (Z4 .xor .u64 z218 z220) fun z221 =>
 bnd (IntKind.wrap .u64 (z217+z221)) fun z222 =>
 bnd (IntKind.wrap .u64 (z222+z214)) fun z223 =>
 chk (inB i207 80) <|
 bnd (y6.getD (i207).toNat 0) fun z225 =>
 bnd (IntKind.wrap .u64 (z223+z225)) fun z226 =>
 opt (Zcg i199 28 34 39) fun y228 =>
 bnd (Z4 .and .u64 i199 i200) fun z229 =>
 bnd (Z4 .and .u64 i199 i201) fun z230 =>
 bnd (Z4 .xor .u64 z229 z230) fun z231 =>
 bnd (Z4 .and .u64 i200 i201) fun z232 =>
 bnd (Z4 .xor .u64 z231 z232) fun z233 =>
 bnd (IntKind.wrap .u64 (y228+z233)) fun z234 =>
 bnd (IntKind.wrap .u64 (i202+z226)) fun z236 =>
 bnd (IntKind.wrap .u64 (z226+z234)) fun z237 =>
 bnd (IntKind.wrap .i64 (i207+1)) fun z239 =>
 k208 z237 i199 i200 i201 z236 i203 i204 i205 z239
 ) (
 k133 i199 i200 i201 i202 i203 i204 i205 i206
 )
def Z5v (y6:(List Int)) (k133:(Int)→(Int)→(Int)→(Int)→(Int)→(Int)→(Int)→(Int)→OL):Nat→(Int)→(Int)→(Int)→(Int)→(Int)→(Int)→(Int)→(Int)→(Int)→OL
  | 0,_,_,_,_,_,_,_,_,_=>none
  | n+1,i199,i200,i201,i202,i203,i204,i205,i206,i207=>Z9f y6 k133 (Z5v y6 k133 n) i199 i200 i201 i202 i203 i204 i205 i206 i207
def Z9g (z241:List Int) (k283:(List Int)→OL) (k309:(Int)→(List Int)→OL) (i307:Int) (a308:List Int):OL :=
 br ((decide (i307<8))) (
 chk (inB i307 8) <|
 bnd (z241.getD (i307).toNat 0) fun z315 =>
 chk (inB i307 8) <|
 bnd (a308.getD (i307).toNat 0) fun z318 =>
 bnd (IntKind.wrap .u64 (z318+z315)) fun z319 =>
 chk (inB i307 8) <|
 bnd (Z4q a308 (i307).toNat z319) fun l321 =>
 bnd (IntKind.wrap .i64 (i307+1)) fun z323 =>
 k309 z323 l321
 ) (
 k283 a308
 )
def Z5w (z241:List Int) (k283:(List Int)→OL):Nat→(Int)→(List Int)→OL
  | 0,_,_=>none
  | n+1,i307,a308=>Z9g z241 k283 (Z5w z241 k283 n) i307 a308
def Z9r (p0:List Int) (p1:List Int):OL :=
 opt (Z9h p1) fun y6 =>
 bnd (p0.getD 0 0) fun z9 =>
 bnd (p0.getD 1 0) fun z10 =>
 bnd (p0.getD 2 0) fun z11 =>
 bnd (p0.getD 3 0) fun z12 =>
 bnd (p0.getD 4 0) fun z14 =>
 bnd (p0.getD 5 0) fun z15 =>
 bnd (p0.getD 6 0) fun z16 =>
 bnd (p0.getD 7 0) fun z17 =>
 jn (fun (i125:Int) (i126:Int) (i127:Int) (i128:Int) (i129:Int) (i130:Int) (i131:Int) (i132:Int)=>bnd (([i125,i126,i127,i128,i129,i130,i131,i132]:List Int)) fun z241 =>
 jn (fun (a282:List Int)=>some a282) fun k283=>Z5w z241 k283 big 0 p0) fun k133=>Z5v y6 k133 big z9 z10 z11 z12 z14 z15 z16 z17 0
theorem Zed {W:World} {r:(List Int)} {p0:List Int} {p1:List Int} (h:Z9r p0 p1=some r) (hG:Globs W) :
    Calls Tryz.prog 159 [agg [.ints .u64 8 (p0)],agg [.ints .u8 128 (p1)]].toArray W (Z51 W (agg [.ints .u64 8 (r)])):=by
 unfold Z9r at h
 refine Zd mo Z0dt rfl ?_
 refine Z0<|Z2<|Zg (Z16 (s:=[.ints .u64 8 (p0)]) rfl fun b2 hb2=>Zg (Z16 (s:=[.ints .u8 128 (p1)]) rfl fun b3 hb3=>Zg (Zx fun b4 hb4=>Z1<|Z0<|oH h fun y6 ey6 h=>Z2<|Z6 _ (Z03 (p:=[.ints .u8 128 (p1)]) rfl (.there .here) rfl)<|Z6 _ (Z1a rfl (Zcn ey6))<|Zg (Zx fun b7 hb7=>Zg (Zu (q:=[.ints .u64 80 (y6)]) rfl rfl rfl rfl rfl .here<|Z1<|Z0<|bH h fun z9 ez9 h=>bH h fun z10 ez10 h=>bH h fun z11 ez11 h=>bH h fun z12 ez12 h=>Zv<|Z8 _ (Z3d rfl rfl (by decide))<|Z8 _ (Z3d rfl rfl (by decide))<|Z8 _ (Z3d rfl rfl (by decide))<|Z8 _ (Z3d rfl rfl (by decide))<|Zp _ (iz ez9 (Z2g rfl (.there (.there (.there .here))) rfl))<|Z8 _ (Z15 rfl)<|Zp _ (iz ez10 (Z2g rfl (.there (.there (.there .here))) rfl))<|Z8 _ (Z15 rfl)<|Zp _ (iz ez11 (Z2g rfl (.there (.there (.there .here))) rfl))<|Z8 _ (Z15 rfl)<|Zp _ (iz ez12 (Z2g rfl (.there (.there (.there .here))) rfl))<|Z8 _ (Z15 rfl)<|Z05<|Z0<|bH h fun z14 ez14 h=>bH h fun z15 ez15 h=>bH h fun z16 ez16 h=>bH h fun z17 ez17 h=>Zv<|Z8 _ (Z3d rfl rfl (by decide))<|Z8 _ (Z3d rfl rfl (by decide))<|Z8 _ (Z3d rfl rfl (by decide))<|Z8 _ (Z3d rfl rfl (by decide))<|Zp _ (iz ez14 (Z2g rfl (.there (.there (.there .here))) rfl))<|Z8 _ (Z15 rfl)<|Zp _ (iz ez15 (Z2g rfl (.there (.there (.there .here))) rfl))<|Z8 _ (Z15 rfl)<|Zp _ (iz ez16 (Z2g rfl (.there (.there (.there .here))) rfl))<|Z8 _ (Z15 rfl)<|Zp _ (iz ez17 (Z2g rfl (.there (.there (.there .here))) rfl))<|Z8 _ (Z15 rfl)<|Z05<|Z0<|Z0<|Z2<|Z6 _ (Zm8 (o0:=0) (off:=0) rfl (hG.g4) (by simp) rfl)<|Z7 rfl<|Z1<|jH h fun k133 qk133 h=>Zo (G:=fun t m=>∃ (i125:Int) (i126:Int) (i127:Int) (i128:Int) (i129:Int) (i130:Int) (i131:Int) (i132:Int),k133 i125 i126 i127 i128 i129 i130 i131 i132=some r∧Fit [(2,.pointer (some ⟨b2,0,none⟩)),(4,.pointer (some ⟨b4,0,none⟩)),(6,.int .u64 (i125)),(7,.int .u64 (i126)),(8,.int .u64 (i127)),(9,.int .u64 (i128)),(10,.int .u64 (i129)),(11,.int .u64 (i130)),(12,.int .u64 (i131)),(13,.int .u64 (i132))] (ck b7 211 [.ints .u64 80 (y6)]::(ck b4 144 [.ints .u64 8 ((List.replicate 8 0))]::(ck b3 192 [.ints .u8 128 (p1)]::(ck b2 144 [.ints .u64 8 (p0)] :: [])))) t m) ?_ ?_)))))
 ·refine Zb<|Z01 (fun n209 t m=>∃ (i199:Int) (i200:Int) (i201:Int) (i202:Int) (i203:Int) (i204:Int) (i205:Int) (i206:Int) (i207:Int),Z5v y6 k133 n209 i199 i200 i201 i202 i203 i204 i205 i206 i207=some r∧Fit [(2,.pointer (some ⟨b2,0,none⟩)),(4,.pointer (some ⟨b4,0,none⟩)),(5,.pointer (some ⟨b7,0,none⟩)),(6,.int .u64 (i199)),(7,.int .u64 (i200)),(8,.int .u64 (i201)),(9,.int .u64 (i202)),(10,.int .u64 (i203)),(11,.int .u64 (i204)),(12,.int .u64 (i205)),(13,.int .u64 (i206)),(38,agg [.ints .u64 80 (G_table)]),(39,.int .i64 (i207))] (ck b7 211 [.ints .u64 80 (y6)]::(ck b4 144 [.ints .u64 8 ((List.replicate 8 0))]::(ck b3 192 [.ints .u8 128 (p1)]::(ck b2 144 [.ints .u64 8 (p0)] :: [])))) t m) big ?_ ?_
  ·exact ⟨z9,z10,z11,z12,z14,z15,z16,z17,0,h,⟨⟨rfl,rfl,rfl,rfl,rfl,rfl,rfl,rfl,rfl,rfl,rfl,rfl,rfl,trivial⟩,(.one .here (.one .here (.one .here (.one .here .nil))))⟩⟩
  ·rintro n209 t m ⟨i199,i200,i201,i202,i203,i204,i205,i206,i207,h,hF⟩
   refine Zn hF ?_
   clear hF
   rcases n209 with _ | n209
   · exact Z1d h
   have h:Z9f y6 k133 (Z5v y6 k133 n209) i199 i200 i201 i202 i203 i204 i205 i206 i207=some r:=h
   unfold Z9f at h
   obtain ⟨k208,qk208⟩ : ∃ k,k=Z5v y6 k133 n209:=⟨_,rfl⟩
   try rw [← qk208] at h
   refine Z0<|Z2<|Z6 _ (Za rfl rfl rfl)<|Z1<|Z0<|Z0s h rfl (fun h=>?_) (fun h=>?_)
   ·refine Zm<|Z0<|Zb<|Z0<|cH h fun c213 h=>bH h fun z214 ez214 h=>Z2<|Z7 rfl<|Z6 _ (iz ez214 (Zel (len:=80) rfl rfl (Z1t c213)))<|Z7 rfl<|Z7 rfl<|Z1<|Z0<|oH h fun y216 ey216 h=>bH h fun z217 ez217 h=>bH h fun z218 ez218 h=>bH h fun z219 ez219 h=>bH h fun z220 ez220 h=>bH h fun z221 ez221 h=>bH h fun z222 ez222 h=>bH h fun z223 ez223 h=>cH h fun c224 h=>bH h fun z225 ez225 h=>bH h fun z226 ez226 h=>Zv<|Z8 _ (Z15 rfl)<|Z8 _ (Z15 rfl)<|Z8 _ (Z1a rfl (Zbx ey216))<|Z8 _ (iz ez217 (Za rfl rfl rfl))<|Z8 _ (Z15 rfl)<|Z8 _ (Z15 rfl)<|Z8 _ (iz ez218 (Za rfl rfl rfl))<|Z8 _ (Z15 rfl)<|Z8 _ (iz ez219 (Zmo rfl rfl))<|Z8 _ (Z15 rfl)<|Z8 _ (iz ez220 (Za rfl rfl rfl))<|Z8 _ (iz ez221 (Za rfl rfl rfl))<|Z8 _ (iz ez222 (Za rfl rfl rfl))<|Z8 _ (Z15 rfl)<|Z8 _ (iz ez223 (Za rfl rfl rfl))<|Z8 _ (Z15 rfl)<|Z8 _ (Z3d rfl rfl (Z1t c224))<|Zp _ (iz ez225 (Z8r (base:=0) rfl .here rfl (Z0w c224)))<|Z8 _ (iz ez226 (Za rfl rfl rfl))<|Z8 _ (Z15 rfl)<|Z05<|Z0<|oH h fun y228 ey228 h=>bH h fun z229 ez229 h=>bH h fun z230 ez230 h=>bH h fun z231 ez231 h=>bH h fun z232 ez232 h=>bH h fun z233 ez233 h=>bH h fun z234 ez234 h=>Z2<|Z7 rfl<|Z6 _ (Z1a rfl (Zbx ey228))<|Z7 rfl<|Z7 rfl<|Z6 _ (iz ez229 (Za rfl rfl rfl))<|Z7 rfl<|Z7 rfl<|Z6 _ (iz ez230 (Za rfl rfl rfl))<|Z6 _ (iz ez231 (Za rfl rfl rfl))<|Z7 rfl<|Z7 rfl<|Z6 _ (iz ez232 (Za rfl rfl rfl))<|Z6 _ (iz ez233 (Za rfl rfl rfl))<|Z6 _ (iz ez234 (Za rfl rfl rfl))<|Z7 rfl<|Z1<|bH h fun z236 ez236 h=>bH h fun z237 ez237 h=>Z2<|Z7 rfl<|Z7 rfl<|Z7 rfl<|Z7 rfl<|Z7 rfl<|Z6 _ (iz ez236 (Za rfl rfl rfl))<|Z7 rfl<|Z7 rfl<|Z7 rfl<|Z7 rfl<|Z7 rfl<|Z6 _ (iz ez237 (Za rfl rfl rfl))<|Z7 rfl<|Z7 rfl<|Z7 rfl<|Z7 rfl<|Z7 rfl<|Z7 rfl<|Z7 rfl<|Z7 rfl<|Z1<|bH h fun z239 ez239 h=>Z2<|Z6 _ (iz ez239 (Za rfl rfl rfl))<|Z7 rfl<|Z1 ?_
    rw [qk208] at h
    exact ⟨n209,Nat.lt_succ_self _,z237,i199,i200,i201,z236,i203,i204,i205,z239,h,⟨⟨rfl,rfl,rfl,rfl,rfl,rfl,rfl,rfl,rfl,rfl,rfl,rfl,rfl,trivial⟩,(.one .here (.one .here (.one .here (.one .here .nil))))⟩⟩
   ·exact Z0e _ rfl<|⟨i199,i200,i201,i202,i203,i204,i205,i206,h,⟨⟨rfl,rfl,rfl,rfl,rfl,rfl,rfl,rfl,rfl,rfl,trivial⟩,(.one .here (.one .here (.one .here (.one .here .nil))))⟩⟩
 ·rintro t m ⟨i125,i126,i127,i128,i129,i130,i131,i132,h,hF⟩
  refine Zn hF ?_
  clear hF
  subst qk133
  refine Z0<|Z0<|bH h fun z241 ez241 h=>Z2<|Z7 rfl<|Z7 rfl<|Z7 rfl<|Z7 rfl<|Z7 rfl<|Z7 rfl<|Z7 rfl<|Z7 rfl<|Z6 _ (az (fun z=>agg [.ints .u64 8 z]) ez241 (Zdv (.one rfl rfl rfl (.one rfl rfl rfl (.one rfl rfl rfl (.one rfl rfl rfl (.one rfl rfl rfl (.one rfl rfl rfl (.one rfl rfl rfl (.one rfl rfl rfl BdR.nil))))))))))<|Z7 rfl<|Z1<|jH h fun k283 qk283 h=>Zo (G:=fun t m=>∃ (a282:List Int),k283 a282=some r∧Fit [(2,.pointer (some ⟨b2,0,none⟩)),(4,.pointer (some ⟨b4,0,none⟩))] (ck b7 211 [.ints .u64 80 (y6)]::(ck b4 144 [.ints .u64 8 ((List.replicate 8 0))]::(ck b3 192 [.ints .u8 128 (p1)]::(ck b2 144 [.ints .u64 8 (a282)] :: [])))) t m) ?_ ?_
  ·refine Zb<|Z01 (fun n310 t m=>∃ (i307:Int) (a308:List Int),Z5w z241 k283 n310 i307 a308=some r∧Fit [(2,.pointer (some ⟨b2,0,none⟩)),(4,.pointer (some ⟨b4,0,none⟩)),(97,agg [.ints .u64 8 (z241)]),(98,.int .i64 (i307))] (ck b7 211 [.ints .u64 80 (y6)]::(ck b4 144 [.ints .u64 8 ((List.replicate 8 0))]::(ck b3 192 [.ints .u8 128 (p1)]::(ck b2 144 [.ints .u64 8 (a308)] :: [])))) t m) big ?_ ?_
   ·exact ⟨0,p0,h,⟨⟨rfl,rfl,rfl,rfl,trivial⟩,(.one .here (.one .here (.one .here (.one .here .nil))))⟩⟩
   ·rintro n310 t m ⟨i307,a308,h,hF⟩
    refine Zn hF ?_
    clear hF
    rcases n310 with _ | n310
    · exact Z1d h
    have h:Z9g z241 k283 (Z5w z241 k283 n310) i307 a308=some r:=h
    unfold Z9g at h
    obtain ⟨k309,qk309⟩ : ∃ k,k=Z5w z241 k283 n310:=⟨_,rfl⟩
    try rw [← qk309] at h
    refine Z0<|Z2<|Z6 _ (Za rfl rfl rfl)<|Z1<|Z0<|Z0s h rfl (fun h=>?_) (fun h=>?_)
    ·refine Zm<|Z0<|Zb<|Z0<|cH h fun c314 h=>bH h fun z315 ez315 h=>Z2<|Z7 rfl<|Z6 _ (iz ez315 (Zel (len:=8) rfl rfl (Z1t c314)))<|Z7 rfl<|Z7 rfl<|Z1<|cH h fun c317 h=>bH h fun z318 ez318 h=>bH h fun z319 ez319 h=>cH h fun c320 h=>bH h fun l321 el321 h=>Z2<|Z7 rfl<|Z6 _ (Z3d rfl rfl (Z1t c317))<|Z6 _ (iz ez318 (Z8r (base:=0) rfl (.there (.there (.there .here))) rfl (Z0w c317)))<|Z7 rfl<|Z6 _ (iz ez319 (Za rfl rfl rfl))<|Z6 _ (Z3d rfl rfl (Z1t c320))<|Zg (Z5g (q:=[.ints .u64 8 (l321)]) (base:=0) el321 rfl rfl rfl (Z0w c320) rfl (.there (.there (.there .here)))<|Z1<|bH h fun z323 ez323 h=>Z2<|Z6 _ (iz ez323 (Za rfl rfl rfl))<|Z7 rfl<|Z1 ?_)
     rw [qk309] at h
     exact ⟨n310,Nat.lt_succ_self _,z323,l321,h,⟨⟨rfl,rfl,rfl,rfl,trivial⟩,(.one .here (.one .here (.one .here (.one .here .nil))))⟩⟩
    ·exact Z0e _ rfl<|⟨a308,h,⟨⟨rfl,rfl,trivial⟩,(.one .here (.one .here (.one .here (.one .here .nil))))⟩⟩
  ·rintro t m ⟨a282,h,hF⟩
   refine Zn hF ?_
   clear hF
   subst qk283
   refine Z0<|Z2<|Z6 _ (Z03 (p:=[.ints .u64 8 (a282)]) rfl (.there (.there (.there .here))) rfl)<|Zg (Zu (q:=[.ints .u64 8 (a282)]) rfl rfl rfl rfl rfl (.there .here)<|Z1<|Zk ?_)
   revert h; refine Zy fun h=>?_
   subst h
   exact ⟨_,(.cons (.agg rfl (.there .here) rfl) .nil),rfl⟩
def Z1l (z3:Int) (k44:(List (Int))→(List Int)→(List Int)→(Int)→Option (Zj)) (l39:List (Int)) (a41:List Int) (a42:List Int) (i43:Int):Option (Zj) :=
 br ((decide ((l39.length:Int)>0))) (
 chk (Zjj i43 128 128) <|
 bnd (wr a42 (i43).toNat (l39.take (128-(i43).toNat))) fun l50 =>
 chk (Zjj ((Nat.min l39.length (128-(i43).toNat):Nat):Int) (l39.length:Int) l39.length) <|
 bnd (IntKind.wrap .i64 (i43+((Nat.min l39.length (128-(i43).toNat):Nat):Int))) fun z54 =>
 br ((z54==128)) (
 opt (Z9r a41 l50) fun y58 =>
 k44 ((l39.drop (((Nat.min l39.length (128-(i43).toNat):Nat):Int)).toNat).take (((l39.length:Int)).toNat-(((Nat.min l39.length (128-(i43).toNat):Nat):Int)).toNat)) y58 l50 0
 ) (
 k44 ((l39.drop (((Nat.min l39.length (128-(i43).toNat):Nat):Int)).toNat).take (((l39.length:Int)).toNat-(((Nat.min l39.length (128-(i43).toNat):Nat):Int)).toNat)) a41 l50 z54
 )
 ) (
 some (⟨a41,a42,i43,z3⟩:Zj)
 )
def Z0k (z3:Int):Nat→(List (Int))→(List Int)→(List Int)→(Int)→Option (Zj)
  | 0,_,_,_,_=>none
  | n+1,l39,a41,a42,i43=>Z1l z3 (Z0k z3 n) l39 a41 a42 i43
def Z0v (p0:Zj) (p1:List Int):Option (Zj) :=
 bnd (IntKind.wrap .u64 (p1.length:Int)) fun z2 =>
 bnd (IntKind.wrap .u64 (p0.glength+z2)) fun z3 =>
 Z0k z3 big p1 p0.gstate p0.gheld p0.ghave
theorem Z4f {W:World} {r:Zj} {p0:Zj} {p1:List Int} {v1:Value} {b:Nat} {T:TypeId} (h:Z0v p0 p1=some r) (h0:Sat W [b] (ck b T [.ints .u64 8 (p0.gstate),.ints .u8 128 (p0.gheld),.one (.int .i64 (p0.ghave)),.one (.int .u64 (p0.glength))] :: []) W) (hG:Globs W) (hS : ∀ g,g<ng→g ∉ [b]) (A1:RdSl (El.int .u8) W v1 p1∧Z92 v1 p1 [b]) :
    Calls Tryz.prog 97 [.pointer (some ⟨b,0,none⟩),v1].toArray W (Zdw W [b] (fun v Ms=>v = .tuple #[]∧Ms = [.one (ck b T [.ints .u64 8 (r.gstate),.ints .u8 128 (r.gheld),.one (.int .i64 (r.ghave)),.one (.int .u64 (r.glength))])])):=by
 unfold Z0v at h
 refine Z0o mo ok97 rfl h0 ?_
 refine Z0<|bH h fun z2 ez2 h=>bH h fun z3 ez3 h=>Z2<|Z7 rfl<|Z6 _ (Z59 rfl)<|Z6 _ (Z64 rfl)<|Z6 _ (Z2g rfl .here rfl)<|Z7 rfl<|Z6 _ (Z2r rfl (Shp.rd A1.1))<|Z6 _ (iz ez2 (Z8l rfl))<|Z6 _ (iz ez3 (Za rfl rfl rfl))<|Z6 _ (Z59 rfl)<|Z6 _ (Z64 rfl)<|Zg (Z97 (q:=[.ints .u64 8 (p0.gstate),.ints .u8 128 (p0.gheld),.one (.int .i64 (p0.ghave)),.one (.int .u64 (z3))]) rfl rfl rfl rfl .here<|Z1<|Zb<|Z01 (fun n45 t m=>∃ (l39:List (Int)) (a41:List Int) (a42:List Int) (i43:Int) (v38:Value),Z0k z3 n45 l39 a41 a42 i43=some r∧(RdSl (El.int .u8) W v38 l39∧Z92 v38 l39 [b])∧Fit [(0,.pointer (some ⟨b,0,none⟩)),(1,v38)] (ck b T [.ints .u64 8 (a41),.ints .u8 128 (a42),.one (.int .i64 (i43)),.one (.int .u64 (z3))] :: []) t m) big ?_ ?_)
 ·exact ⟨p1,p0.gstate,p0.gheld,p0.ghave,v1,h,A1,⟨⟨rfl,rfl,trivial⟩,(.one .here .nil)⟩⟩
 ·rintro n45 t m ⟨l39,a41,a42,i43,v38,h,A40,hF⟩
  refine Zn hF ?_
  clear hF
  rcases n45 with _ | n45
  · exact Z1d h
  have h:Z1l z3 (Z0k z3 n45) l39 a41 a42 i43=some r:=h
  unfold Z1l at h
  obtain ⟨k44,qk44⟩ : ∃ k,k=Z0k z3 n45:=⟨_,rfl⟩
  try rw [← qk44] at h
  refine Z0<|Z0<|Z2<|Z7 rfl<|Z6 _ (Z2r rfl (Shp.rd A40.1))<|Z6 _ (Za rfl rfl rfl)<|Z1<|Z0s h rfl (fun h=>?_) (fun h=>?_)
  ·refine Zm<|Zb<|Z0<|cH h fun c49 h=>bH h fun l50 el50 h=>Zv<|Z8 _ (Z15 rfl)<|Z8 _ (Z59 rfl)<|Z8 _ (Z64 rfl)<|Z8 _ (Z15 rfl)<|Z8 _ (Z59 rfl)<|Z8 _ (Z64 rfl)<|Z8 _ (Z15 rfl)<|Zp _ (Z2g rfl .here rfl)<|Z8 _ (Z8w rfl (.yes rfl) .no .no (by simp) (cut4 c49))<|Z2j rfl (Zdz (q:=[.ints .u64 8 (a41),.ints .u8 128 (l50),.one (.int .i64 (i43)),.one (.int .u64 (z3))]) (lo:=(i43).toNat) (hi:=128) (mz:=128) (base:=8) el50 rfl rfl (Z0a A40.1 A40.2) rfl (cutn c49) rfl .here<|Z8 _ (Z15 rfl)<|Z05<|Z0<|cH h fun c52 h=>Z2<|Z7 rfl<|Z7 rfl<|Z6 _ (Zry (lz:=((Nat.min l39.length (128-(i43).toNat):Nat):Int)) (hz:=(l39.length:Int)) rfl (Shp.rd A40.1) (.yes rfl) .no c52)<|Z7 rfl<|Z1<|Z0<|bH h fun z54 ez54 h=>Z2<|Z7 rfl<|Z6 _ (Z59 rfl)<|Z6 _ (Z64 rfl)<|Z6 _ (Z2g rfl .here rfl)<|Z7 rfl<|Z6 _ (iz ez54 (Za rfl rfl rfl))<|Z6 _ (Z59 rfl)<|Z6 _ (Z64 rfl)<|Zg (Z97 (q:=[.ints .u64 8 (a41),.ints .u8 128 (l50),.one (.int .i64 (z54)),.one (.int .u64 (z3))]) rfl rfl rfl rfl .here<|Z1<|Z0<|Z2<|Z7 rfl<|Z6 _ (Z59 rfl)<|Z6 _ (Z64 rfl)<|Z6 _ (Z2g rfl .here rfl)<|Z6 _ (Za rfl rfl rfl)<|Z1<|Z0s h rfl (fun h=>?_) (fun h=>?_)))
   ·refine Z0<|oH h fun y58 ey58 h=>Zv<|Z8 _ (Z15 rfl)<|Z8 _ (Z15 rfl)<|Z8 _ (Z59 rfl)<|Z8 _ (Z64 rfl)<|Z8 _ (Z15 rfl)<|Z8 _ (Z59 rfl)<|Z8 _ (Z64 rfl)<|Zp _ (Z03 (p:=[.ints .u64 8 (a41)]) rfl .here rfl)<|Zp _ (Z03 (p:=[.ints .u8 128 (l50)]) rfl .here rfl)<|Z8 _ (Z0n rfl (fun w hw=>Zed ey58 (hG.at hw hS)))<|Z8 _ (Z59 rfl)<|Z8 _ (Z64 rfl)<|Z2j rfl (Zu (q:=[.ints .u64 8 (y58),.ints .u8 128 (l50),.one (.int .i64 (z54)),.one (.int .u64 (z3))]) rfl rfl rfl rfl rfl .here<|Z05<|Z2<|Z7 rfl<|Z6 _ (Z59 rfl)<|Z6 _ (Z64 rfl)<|Zg (Z97 (q:=[.ints .u64 8 (y58),.ints .u8 128 (l50),.one (.int .i64 (0)),.one (.int .u64 (z3))]) rfl rfl rfl rfl .here<|Z1 ?_))
    rw [qk44] at h
    exact ⟨n45,Nat.lt_succ_self _,((l39.drop (((Nat.min l39.length (128-(i43).toNat):Nat):Int)).toNat).take (((l39.length:Int)).toNat-(((Nat.min l39.length (128-(i43).toNat):Nat):Int)).toNat)),y58,l50,0,(Zbe 1 v38 (((Nat.min l39.length (128-(i43).toNat):Nat):Int)).toNat ((l39.length:Int)).toNat),h,(Zs2 A40 (lz:=((Nat.min l39.length (128-(i43).toNat):Nat):Int)) (hz:=(l39.length:Int)) c52),⟨⟨rfl,rfl,trivial⟩,(.one .here .nil)⟩⟩
   ·refine Zm ?_
    rw [qk44] at h
    exact ⟨n45,Nat.lt_succ_self _,((l39.drop (((Nat.min l39.length (128-(i43).toNat):Nat):Int)).toNat).take (((l39.length:Int)).toNat-(((Nat.min l39.length (128-(i43).toNat):Nat):Int)).toNat)),a41,l50,z54,(Zbe 1 v38 (((Nat.min l39.length (128-(i43).toNat):Nat):Int)).toNat ((l39.length:Int)).toNat),h,(Zs2 A40 (lz:=((Nat.min l39.length (128-(i43).toNat):Nat):Int)) (hz:=(l39.length:Int)) c52),⟨⟨rfl,rfl,trivial⟩,(.one .here .nil)⟩⟩
  ·refine Z0e _ rfl ?_
   revert h; refine Zy fun h=>?_
   subst h
   exact ⟨_,_,.nil,(.one .here .nil),⟨_,rfl,⟨rfl,rfl⟩⟩⟩
def Z54 (k65:(List (Int))→OL) (k102:(Int)→(List (Int))→(Int)→OL) (i96:Int) (l99:List (Int)) (i101:Int):OL :=
 br ((decide (i101≥0))) (
 bnd (IntKind.wrap .u8 i96) fun z107 =>
 chk (inB i101 l99.length) <|
 bnd (Zew 0 l99 (i101).toNat z107) fun l109 =>
 bnd (Zi .u64 i96 8) fun z113 =>
 bnd (IntKind.wrap .i64 (i101-1)) fun z115 =>
 k102 z113 l109 z115
 ) (
 k65 l99
 )
def Z2a (k65:(List (Int))→OL):Nat→(Int)→(List (Int))→(Int)→OL
  | 0,_,_,_=>none
  | n+1,i96,l99,i101=>Z54 k65 (Z2a k65 n) i96 l99 i101
def Z1c (p0:Int):OL :=
 opt (Z3b) fun y3 =>
 bnd (IntKind.wrap .i64 (Int.tdiv y3 8)) fun z4 =>
 chk (mkB 1 z4 z4) <|
 bnd (IntKind.wrap .i64 (((List.replicate (z4).toNat 0:List (Int)).length:Int)-1)) fun z10 =>
 jn (fun (l63:List (Int))=>some l63) fun k65=>Z2a k65 big p0 (List.replicate (z4).toNat 0:List (Int)) z10
theorem Z47 {W:World} {r:(List Int)} {p0:Int} (h:Z1c p0=some r)  :
    Calls Tryz.prog 118 [.int .u64 (p0)].toArray W (Zdw W [] (fun v Ms=>∃ (u0:Value) (M0:List Zc),v=u0∧Ms = [.all M0]∧Z1z (El.int .u8) u0 M0 r)):=by
 unfold Z1c at h
 refine Z0o mo Z0d2 rfl (Zh8 _) ?_
 refine Z0<|Z2<|Z7 rfl<|Z1<|Z0<|oH h fun y3 ey3 h=>bH h fun z4 ez4 h=>cH h fun c5 h=>Z2<|Z6 _ (Z1a rfl (Z3m ey3))<|Z6 _ (iz ez4 (Ziv rfl rfl (by decide)))<|Zg (Zfi (E:=(El.int .u8)) rfl rfl rfl c5 fun v6 ms7 O8=>Z7 rfl<|Z1<|Z0<|Z0<|bH h fun z10 ez10 h=>Z2<|Z7 rfl<|Z6 _ (Z2r rfl (Shp.own O8))<|Z6 _ (iz ez10 (Za rfl rfl rfl))<|Z7 rfl<|Z1<|jH h fun k65 qk65 h=>Zo (G:=fun t m=>∃ (l63:List (Int)) (v61:Value) (ms62:List Zc),k65 l63=some r∧Z1z (El.int .u8) v61 ms62 l63∧Fit [(3,v61)] (ms62 ++ []) t m) ?_ ?_)
 ·refine Zb<|Z01 (fun n103 t m=>∃ (i96:Int) (l99:List (Int)) (i101:Int) (v97:Value) (ms98:List Zc),Z2a k65 n103 i96 l99 i101=some r∧Z1z (El.int .u8) v97 ms98 l99∧Fit [(0,.int .u64 (i96)),(3,v97),(4,.int .i64 (i101))] (ms98 ++ []) t m) big ?_ ?_
  ·exact ⟨p0,(List.replicate (z4).toNat 0:List (Int)),z10,v6,ms7,h,O8,⟨⟨rfl,rfl,rfl,trivial⟩,(.all .here .nil)⟩⟩
  ·rintro n103 t m ⟨i96,l99,i101,v97,ms98,h,O100,hF⟩
   refine Zn hF ?_
   clear hF
   rcases n103 with _ | n103
   · exact Z1d h
   have h:Z54 k65 (Z2a k65 n103) i96 l99 i101=some r:=h
   unfold Z54 at h
   obtain ⟨k102,qk102⟩ : ∃ k,k=Z2a k65 n103:=⟨_,rfl⟩
   try rw [← qk102] at h
   refine Z0<|Z0<|Z2<|Z7 rfl<|Z6 _ (Za rfl rfl rfl)<|Z1<|Z0s h rfl (fun h=>?_) (fun h=>?_)
   ·refine Zm<|Z0<|Zb<|Z0<|bH h fun z107 ez107 h=>cH h fun c108 h=>bH h fun l109 el109 h=>Z2<|Z7 rfl<|Z7 rfl<|Z7 rfl<|Z6 _ (iz ez107 (Z8l rfl))<|Z6 _ (Z3a rfl rfl (Shp.own O100) c108)<|Zg (Zid (E:=(El.int .u8)) el109 O100 .here rfl rfl rfl (Z0w c108) fun ms110 O111=>Z1<|bH h fun z113 ez113 h=>Z2<|Z7 rfl<|Z6 _ (iz ez113 (Z7a rfl rfl (by decide)))<|Z7 rfl<|Z1<|bH h fun z115 ez115 h=>Z2<|Z7 rfl<|Z6 _ (iz ez115 (Za rfl rfl rfl))<|Z7 rfl<|Z1 ?_)
    rw [qk102] at h
    exact ⟨n103,Nat.lt_succ_self _,z113,l109,z115,v97,ms110,h,O111,⟨⟨rfl,rfl,rfl,trivial⟩,(.all .here .nil)⟩⟩
   ·exact Z0e _ rfl<|⟨l99,v97,ms98,h,O100,⟨⟨rfl,trivial⟩,(.all .here .nil)⟩⟩
 ·rintro t m ⟨l63,v61,ms62,h,O64,hF⟩
  refine Zn hF ?_
  clear hF
  subst qk65
  refine Z0<|Z2<|Z7 rfl<|Z7 rfl<|Z1<|Zk ?_
  revert h; refine Zy fun h=>?_
  subst h
  exact ⟨_,_,(.cons (.tmp rfl) .nil),(.all .here .nil),⟨_,rfl,⟨v61,ms62,rfl,rfl,O64⟩⟩⟩
def Z3k (p0:Zj):Option (Zj×Zj) :=
 some (p0,p0)
theorem Zal {W:World} {r:Zj×Zj} {p0:Zj} {b:Nat} {T:TypeId} (h:Z3k p0=some r) (h0:Sat W [b] (ck b T [.ints .u64 8 (p0.gstate),.ints .u8 128 (p0.gheld),.one (.int .i64 (p0.ghave)),.one (.int .u64 (p0.glength))] :: []) W) :
    Calls Tryz.prog 163 [.pointer (some ⟨b,0,none⟩)].toArray W (Zdw W [b] (fun v Ms=>∃ (b0:Nat) (T0:TypeId),v = .pointer (some ⟨b0,0,none⟩)∧Ms = [.one (ck b0 T0 [.ints .u64 8 (r.1.gstate),.ints .u8 128 (r.1.gheld),.one (.int .i64 (r.1.ghave)),.one (.int .u64 (r.1.glength))]),.one (ck b T [.ints .u64 8 (r.2.gstate),.ints .u8 128 (r.2.gheld),.one (.int .i64 (r.2.ghave)),.one (.int .u64 (r.2.glength))])])):=by
 unfold Z3k at h
 refine Z0o mo Z0dx rfl h0 ?_
 refine Z0<|Z2<|Z7 rfl<|Z1<|Z0<|Z2<|Z7 rfl<|Z6 _ (Z59 rfl)<|Z6 _ (Z03 (p:=[.ints .u64 8 (p0.gstate),.ints .u8 128 (p0.gheld),.one (.int .i64 (p0.ghave)),.one (.int .u64 (p0.glength))]) rfl .here rfl)<|Zg (Zx fun b3 hb3=>Zg (Zu (q:=[.ints .u64 8 (p0.gstate),.ints .u8 128 (p0.gheld),.one (.int .i64 (p0.ghave)),.one (.int .u64 (p0.glength))]) rfl rfl rfl rfl rfl .here<|Z1<|Z0<|Z2<|Z7 rfl<|Z1<|Zk ?_))
 revert h; refine Zy fun h=>?_
 subst h
 exact ⟨_,_,(.cons (.tmp rfl) .nil),(.one .here (.one .here .nil)),⟨_,rfl,⟨b3,194,rfl,rfl⟩⟩⟩
def Z83 (p0:Int):OL :=
 bnd (IntKind.wrap .u64 (p0+17)) fun z3 =>
 bnd (Int.tmod z3 128) fun z4 =>
 bnd (IntKind.wrap .i64 z4) fun z5 =>
 bnd (IntKind.wrap .i64 (128-z5)) fun z6 =>
 bnd (Int.tmod z6 128) fun z7 =>
 bnd (IntKind.wrap .i64 (17+z7)) fun z9 =>
 chk (mkB 1 0 z9) <|
 chk (decide (((List.replicate 0 0:List (Int)).length+([128]:List (Int)).length)*1≤140737488355328)) <|
 bnd ((List.replicate 0 0:List (Int))++([128]:List (Int))) fun l19 =>
 chk (decide (0≤z7)) <|
 chk (decide ((l19.length+(z7).toNat)*1≤140737488355328)) <|
 bnd (l19++List.replicate (z7).toNat 0) fun l26 =>
 bnd (Zi .u64 p0 61) fun z31 =>
 opt (Z1c z31) fun y32 =>
 chk (decide ((l26.length+y32.length)*1≤140737488355328)) <|
 bnd (l26++y32) fun l39 =>
 bnd (Zq .u64 p0 3) fun z44 =>
 opt (Z1c z44) fun y45 =>
 chk (decide ((l39.length+y45.length)*1≤140737488355328)) <|
 bnd (l39++y45) fun l52 =>
 some l52
theorem Zfz {W:World} {r:(List Int)} {p0:Int} (h:Z83 p0=some r)  :
    Calls Tryz.prog 164 [.int .u64 (p0)].toArray W (Zdw W [] (fun v Ms=>∃ (u0:Value) (M0:List Zc),v=u0∧Ms = [.all M0]∧Z1z (El.int .u8) u0 M0 r)):=by
 unfold Z83 at h
 refine Z0o mo Z0dy rfl (Zh8 _) ?_
 refine Z0<|Z2<|Z7 rfl<|Z1<|Z0<|bH h fun z3 ez3 h=>bH h fun z4 ez4 h=>bH h fun z5 ez5 h=>bH h fun z6 ez6 h=>bH h fun z7 ez7 h=>Z2<|Z7 rfl<|Z6 _ (iz ez3 (Za rfl rfl rfl))<|Z6 _ (iz ez4 (Ziw rfl rfl (by decide)))<|Z6 _ (iz ez5 (Z8l rfl))<|Z6 _ (iz ez6 (Za rfl rfl rfl))<|Z6 _ (iz ez7 (Ziw rfl rfl (by decide)))<|Z7 rfl<|Z1<|Z0<|bH h fun z9 ez9 h=>cH h fun c10 h=>Z2<|Z7 rfl<|Z6 _ (iz ez9 (Za rfl rfl rfl))<|Zg (Zfi (E:=(El.int .u8)) rfl rfl rfl c10 fun v11 ms12 O13=>Z7 rfl<|Z1<|Z0<|cH h fun c18 h=>bH h fun l19 el19 h=>Z2<|Z7 rfl<|Zg (Z9n (E:=(El.int .u8)) (xs:=[128]) (.one rfl rfl rfl BdR.nil) (.cons (p:=[.one (.int .u8 (128))]) rfl .nil) rfl fun v15 ms16 O17=>Zg (Zbf (E:=(El.int .u8)) el19 rfl O13 (.app .here) rfl (Z1v O17 .here) c18 fun v20 ms21 O22=>Z7 rfl<|Z1<|Z0<|cH h fun c24 h=>cH h fun c25 h=>bH h fun l26 el26 h=>Z2<|Z7 rfl<|Z7 rfl<|Zg (Ztc (E:=(El.int .u8)) el26 rfl O22 .here rfl c24 rfl c25 fun v27 ms28 O29=>Z7 rfl<|Z1<|Z0<|bH h fun z31 ez31 h=>oH h fun y32 ey32 h=>cH h fun c38 h=>bH h fun l39 el39 h=>Z2<|Z7 rfl<|Z7 rfl<|Z6 _ (iz ez31 (Z7a rfl rfl (by decide)))<|Zg (Z00 rfl (fun w hw=>Z47  ey32 ) fun v33 Msv33 R34=>?_)))))
 obtain ⟨_,ms36,rfl,rfl,O37⟩:=R34
 refine Zg (Zbf (E:=(El.int .u8)) el39 rfl O29 (.app .here) rfl (Z1v O37 .here) c38 fun v40 ms41 O42=>Z7 rfl<|Z1<|Z0<|bH h fun z44 ez44 h=>oH h fun y45 ey45 h=>cH h fun c51 h=>bH h fun l52 el52 h=>Z2<|Z7 rfl<|Z7 rfl<|Z6 _ (iz ez44 (Zhv rfl rfl (by decide)))<|Zg (Z00 rfl (fun w hw=>Z47  ey45 ) fun v46 Msv46 R47=>?_))
 obtain ⟨_,ms49,rfl,rfl,O50⟩:=R47
 refine Zg (Zbf (E:=(El.int .u8)) el52 rfl O42 (.app .here) rfl (Z1v O50 .here) c51 fun v53 ms54 O55=>Z7 rfl<|Z1<|Zk ?_)
 revert h; refine Zy fun h=>?_
 subst h
 exact ⟨_,_,(.cons (.tmp rfl) .nil),(.all .here .nil),⟨_,rfl,⟨v53,ms54,rfl,rfl,O55⟩⟩⟩
def Z68 (y16:Zj) (k75:(List Int)→Option ((List Int)×Zj)) (k109:(Int)→(List Int)→Option ((List Int)×Zj)) (i107:Int) (a108:List Int):Option ((List Int)×Zj) :=
 br ((decide (i107<8))) (
 chk (inB i107 8) <|
 bnd (y16.gstate.getD (i107).toNat 0) fun z115 =>
 bnd (IntKind.wrap .i64 (8*i107)) fun z117 =>
 chk (Zjj z117 64 64) <|
 opt (Z1c z115) fun y119 =>
 bnd (wr a108 (z117).toNat (y119.take (64-(z117).toNat))) fun l125 =>
 bnd (IntKind.wrap .i64 (i107+1)) fun z127 =>
 k109 z127 l125
 ) (
 k75 a108
 )
def Z1j (y16:Zj) (k75:(List Int)→Option ((List Int)×Zj)):Nat→(Int)→(List Int)→Option ((List Int)×Zj)
  | 0,_,_=>none
  | n+1,i107,a108=>Z68 y16 k75 (Z1j y16 k75 n) i107 a108
def Z1w (p0:Zj):Option ((List Int)×Zj) :=
 opt (Z3k p0) fun y4 =>
 opt (Z83 y4.2.glength) fun y10 =>
 opt (Z0v y4.1 y10) fun y16 =>
 jn (fun (a74:List Int)=>some (a74,y4.2)) fun k75=>Z1j y16 k75 big 0 (List.replicate 64 0)
theorem Z7l {W:World} {r:(List Int)×Zj} {p0:Zj} {b:Nat} {T:TypeId} (h:Z1w p0=some r) (h0:Sat W [b] (ck b T [.ints .u64 8 (p0.gstate),.ints .u8 128 (p0.gheld),.one (.int .i64 (p0.ghave)),.one (.int .u64 (p0.glength))] :: []) W) (hG:Globs W) (hS : ∀ g,g<ng→g ∉ [b]) :
    Calls Tryz.prog 99 [.pointer (some ⟨b,0,none⟩)].toArray W (Zdw W [b] (fun v Ms=>v=agg [.ints .u8 64 (r.1)]∧Ms = [.one (ck b T [.ints .u64 8 (r.2.gstate),.ints .u8 128 (r.2.gheld),.one (.int .i64 (r.2.ghave)),.one (.int .u64 (r.2.glength))])])):=by
 unfold Z1w at h
 refine Z0o mo ok99 rfl h0 ?_
 refine Z0<|Z2<|Zg (Zx fun b2 hb2=>Z1<|Z0<|oH h fun y4 ey4 h=>Z2<|Z7 rfl<|Zg (Z4s (mS:=[_]) rfl (Z3z.perm (.there .here)) (fun w hw=>Zal  ey4 (Za0 hw (mS:=[_]) (Z3z.perm (.there .here))) ) fun v5 Msv5 R6=>?_))
 obtain ⟨b7,T8,rfl,rfl⟩:=R6
 refine Z7 rfl<|Z1<|Z0<|oH h fun y10 ey10 h=>oH h fun y16 ey16 h=>Z2<|Z7 rfl<|Z7 rfl<|Z6 _ (Z59 rfl)<|Z6 _ (Z64 rfl)<|Z6 _ (Z2g rfl (.there .here) rfl)<|Zg (Z00 rfl (fun w hw=>Zfz  ey10 ) fun v11 Msv11 R12=>?_)
 obtain ⟨_,ms14,rfl,rfl,O15⟩:=R12
 refine Zg (Z4s (mS:=[_]) rfl (Z3z.perm (.app .here)) (fun w hw=>Z4f  ey16 (Za0 hw (mS:=[_]) (Z3z.perm (.app .here))) (hG.at hw hS) (hG.ap hS (.app .here) hw) ⟨(Z1v O15 .here) w hw,(Zfd (E:=(El.int .u8)) O15 .here .here hw)⟩) fun v17 Msv17 R18=>?_)
 obtain ⟨rfl,rfl⟩:=R18
 refine Z1<|Z0<|Z2<|Zg (Zx fun b20 hb20=>Z1<|Z0<|Z0<|Z2<|Z7 rfl<|Z6 _ (Z59 rfl)<|Z6 _ (Z64 rfl)<|Z6 _ (Z03 (p:=[.ints .u64 8 (y16.gstate)]) rfl (.there .here) rfl)<|Z7 rfl<|Z1<|jH h fun k75 qk75 h=>Zo (G:=fun t m=>∃ (a74:List Int),k75 a74=some r∧Fit [(2,.pointer (some ⟨b2,0,none⟩)),(4,.pointer (some ⟨b20,0,none⟩))] (ck b20 94 [.ints .u8 64 (a74)]::(ck b7 T8 [.ints .u64 8 (y16.gstate),.ints .u8 128 (y16.gheld),.one (.int .i64 (y16.ghave)),.one (.int .u64 (y16.glength))]::(ck b T [.ints .u64 8 (y4.2.gstate),.ints .u8 128 (y4.2.gheld),.one (.int .i64 (y4.2.ghave)),.one (.int .u64 (y4.2.glength))]::(ck b2 94 [.ints .u8 64 ((List.replicate 64 0))] :: [])))) t m) ?_ ?_)
 ·refine Zb<|Z01 (fun n110 t m=>∃ (i107:Int) (a108:List Int),Z1j y16 k75 n110 i107 a108=some r∧Fit [(2,.pointer (some ⟨b2,0,none⟩)),(4,.pointer (some ⟨b20,0,none⟩)),(19,agg [.ints .u64 8 (y16.gstate)]),(20,.int .i64 (i107))] (ck b20 94 [.ints .u8 64 (a108)]::(ck b7 T8 [.ints .u64 8 (y16.gstate),.ints .u8 128 (y16.gheld),.one (.int .i64 (y16.ghave)),.one (.int .u64 (y16.glength))]::(ck b T [.ints .u64 8 (y4.2.gstate),.ints .u8 128 (y4.2.gheld),.one (.int .i64 (y4.2.ghave)),.one (.int .u64 (y4.2.glength))]::(ck b2 94 [.ints .u8 64 ((List.replicate 64 0))] :: [])))) t m) big ?_ ?_
  ·exact ⟨0,(List.replicate 64 0),h,⟨⟨rfl,rfl,rfl,rfl,trivial⟩,(.one .here (.one .here (.one (.app .here) (.one (.app .here) .nil))))⟩⟩
  ·rintro n110 t m ⟨i107,a108,h,hF⟩
   refine Zn hF ?_
   clear hF
   rcases n110 with _ | n110
   · exact Z1d h
   have h:Z68 y16 k75 (Z1j y16 k75 n110) i107 a108=some r:=h
   unfold Z68 at h
   obtain ⟨k109,qk109⟩ : ∃ k,k=Z1j y16 k75 n110:=⟨_,rfl⟩
   try rw [← qk109] at h
   refine Z0<|Z2<|Z6 _ (Za rfl rfl rfl)<|Z1<|Z0<|Z0s h rfl (fun h=>?_) (fun h=>?_)
   ·refine Zm<|Z0<|Zb<|Z0<|cH h fun c114 h=>bH h fun z115 ez115 h=>Z2<|Z7 rfl<|Z6 _ (iz ez115 (Zel (len:=8) rfl rfl (Z1t c114)))<|Z7 rfl<|Z7 rfl<|Z1<|bH h fun z117 ez117 h=>cH h fun c118 h=>oH h fun y119 ey119 h=>bH h fun l125 el125 h=>Zv<|Z8 _ (Z15 rfl)<|Z8 _ (iz ez117 (Za rfl rfl rfl))<|Z8 _ (Z8w rfl (.yes rfl) .no .no (by simp) (cut4 c118))<|Z8 _ (Z15 rfl)<|Z7j (Z00 rfl (fun w hw=>Z47  ey119 ) fun v120 Msv120 R121=>?_)
    obtain ⟨_,ms123,rfl,rfl,O124⟩:=R121
    refine ⟨(by repeat (first | exact Sup.refl _ | apply Sup.cons | apply Sup.app)),Z2j rfl (Zdz (q:=[.ints .u8 64 (l125)]) (lo:=(z117).toNat) (hi:=64) (mz:=64) (base:=0) el125 rfl rfl (Z1v O124 .here) rfl (cutn c118) rfl (.app .here) (Z05 (bH h fun z127 ez127 h=>Z2 (Z6 _ (iz ez127 (Za rfl rfl rfl)) (Z7 rfl (Z1 ?_))))))⟩
    rw [qk109] at h
    exact ⟨n110,Nat.lt_succ_self _,z127,l125,h,⟨⟨rfl,rfl,rfl,rfl,trivial⟩,(.one (.app .here) (.one (.app .here) (.one (.app .here) (.one (.app .here) .nil))))⟩⟩
   ·exact Z0e _ rfl<|⟨a108,h,⟨⟨rfl,rfl,trivial⟩,(.one .here (.one .here (.one .here (.one .here .nil))))⟩⟩
 ·rintro t m ⟨a74,h,hF⟩
  refine Zn hF ?_
  clear hF
  subst qk75
  refine Z0<|Z2<|Z6 _ (Z03 (p:=[.ints .u8 64 (a74)]) rfl .here rfl)<|Zg (Zu (q:=[.ints .u8 64 (a74)]) rfl rfl rfl rfl rfl (.there (.there (.there .here)))<|Z1<|Zk ?_)
  revert h; refine Zy fun h=>?_
  subst h
  exact ⟨_,_,(.cons (.agg rfl (.there (.there (.there .here))) rfl) .nil),(.one (.there (.there .here)) .nil),⟨_,rfl,⟨rfl,rfl⟩⟩⟩
def Z91 (p0:List Int):OL :=
 opt (Z90 ) fun y4 =>
 opt (Z0v y4 p0) fun y10 =>
 opt (Z1w y10) fun y14 =>
 some y14.1
theorem Zg0 {W:World} {r:(List Int)} {p0:List Int} {v0:Value} (h:Z91 p0=some r) (hG:Globs W) (A0:RdSl (El.int .u8) W v0 p0) :
    Calls Tryz.prog 88 [v0].toArray W (Z51 W (agg [.ints .u8 64 (r)])):=by
 unfold Z91 at h
 refine Zd mo ok88 rfl ?_
 refine Z0<|Z2<|Zg (Zx fun b2 hb2=>Z1<|Z0<|oH h fun y4 ey4 h=>Z2<|Zg (Z00 rfl (fun w hw=>Zbw  ey4 (hG.at hw (by simp))) fun v5 Msv5 R6=>?_))
 obtain ⟨b7,T8,rfl,rfl⟩:=R6
 refine Z7 rfl<|Z1<|Z0<|oH h fun y10 ey10 h=>Z2<|Z7 rfl<|Z7 rfl<|Zg (Z4s (mS:=[_]) rfl (Z3z.perm .here) (fun w hw=>Z4f  ey10 (Za0 hw (mS:=[_]) (Z3z.perm .here)) (hG.at hw (by simp)) (hG.ap (by simp) .here hw) ⟨(Z0a A0 Z0h) w hw,(Zi6 (E:=(El.int .u8)) A0 .here hw)⟩) fun v11 Msv11 R12=>?_)
 obtain ⟨rfl,rfl⟩:=R12
 refine Z1<|Z0<|oH h fun y14 ey14 h=>Z2<|Z7 rfl<|Zg (Z4s (mS:=[_]) rfl (Z3z.perm .here) (fun w hw=>Z7l  ey14 (Za0 hw (mS:=[_]) (Z3z.perm .here)) (hG.at hw (by simp)) (hG.ap (by simp) .here hw)) fun v15 Msv15 R16=>?_)
 obtain ⟨rfl,rfl⟩:=R16
 refine Zg (Zu (q:=[.ints .u8 64 (y14.1)]) rfl rfl rfl rfl rfl (.there .here)<|Z1<|Zk ?_)
 revert h; refine Zy fun h=>?_
 subst h
 exact ⟨_,(.cons (.agg rfl (.there .here) rfl) .nil),rfl⟩
def Z8m (p0:List Int):OL :=
 bnd (p0.getD 0 0) fun z5 =>
 bnd (Z4 .andNot .u8 z5 7) fun z6 =>
 bnd (Z4q p0 0 z6) fun l7 =>
 bnd (l7.getD 31 0) fun z9 =>
 bnd (Z4 .and .u8 z9 127) fun z10 =>
 bnd (Z4 .or .u8 z10 64) fun z11 =>
 bnd (Z4q l7 31 z11) fun l12 =>
 some l12
theorem Zeb {W:World} {r:(List Int)} {p0:List Int} (h:Z8m p0=some r)  :
    Calls Tryz.prog 89 [agg [.ints .u8 32 (p0)]].toArray W (Z51 W (agg [.ints .u8 32 (r)])):=by
 unfold Z8m at h
 refine Zd mo ok89 rfl ?_
 refine Z0<|Z2<|Zg (Z16 (s:=[.ints .u8 32 (p0)]) rfl fun b2 hb2=>Zg (Zx fun b3 hb3=>Z1<|Z0<|bH h fun z5 ez5 h=>bH h fun z6 ez6 h=>bH h fun l7 el7 h=>Z2<|Z6 _ (Z3d rfl rfl (by decide))<|Z6 _ (iz ez5 (Z2g rfl (.there .here) rfl))<|Z6 _ (iz ez6 (Za rfl rfl rfl))<|Z6 _ (Z3d rfl rfl (by decide))<|Zg (Z98 (q:=[.ints .u8 32 (l7)]) (congrArg (fun z=>([.ints .u8 32 (z)]:List Seg)) el7.symm) rfl rfl rfl rfl (.there .here)<|Z1<|Z0<|bH h fun z9 ez9 h=>bH h fun z10 ez10 h=>bH h fun z11 ez11 h=>bH h fun l12 el12 h=>Z2<|Z6 _ (Z3d rfl rfl (by decide))<|Z6 _ (iz ez9 (Z2g rfl (.there .here) rfl))<|Z6 _ (iz ez10 (Za rfl rfl rfl))<|Z6 _ (iz ez11 (Za rfl rfl rfl))<|Z6 _ (Z3d rfl rfl (by decide))<|Zg (Z98 (q:=[.ints .u8 32 (l12)]) (congrArg (fun z=>([.ints .u8 32 (z)]:List Seg)) el12.symm) rfl rfl rfl rfl (.there .here)<|Z1<|Z0<|Z2<|Z6 _ (Z03 (p:=[.ints .u8 32 (l12)]) rfl (.there .here) rfl)<|Zg (Zu (q:=[.ints .u8 32 (l12)]) rfl rfl rfl rfl rfl .here<|Z1<|Zk ?_)))))
 revert h; refine Zy fun h=>?_
 subst h
 exact ⟨_,(.cons (.agg rfl .here rfl) .nil),rfl⟩
def Z84 (p0:List Int):Option ((List Int)×(List Int)) :=
 opt (Z91 (tk p0 0 32)) fun y5 =>
 chk (decide (32≤(tk y5 0 32).length)) <|
 bnd (tk (tk y5 0 32) 0 32) fun z9 =>
 opt (Z8m z9) fun y10 =>
 some (y10,(tk y5 32 (64-32)))
theorem Zex {W:World} {r:(List Int)×(List Int)} {p0:List Int} (h:Z84 p0=some r) (hG:Globs W) :
    Calls Tryz.prog 49 [agg [.ints .u8 32 (p0)]].toArray W (Zdw W [] (fun v Ms=>∃ (u1:Value) (M1:List Zc),v = .tuple #[agg [.ints .u8 32 (r.1)],u1]∧Ms = [.all M1]∧Z1z (El.int .u8) u1 M1 r.2)):=by
 unfold Z84 at h
 refine Z0o mo ok49 rfl (Zh8 _) ?_
 refine Z0<|Z2<|Zg (Z16 (s:=[.ints .u8 32 (p0)]) rfl fun b2 hb2=>Zg (Zx fun b3 hb3=>Z7 rfl<|Z1<|Z0<|oH h fun y5 ey5 h=>Z2<|Z6 _ (Z8w rfl .no .no .no (by simp) (by decide))<|Z6 _ (Z0n rfl (fun w hw=>Zg0 ey5 (hG.at hw (by simp)) ((Z1x (s:=[.ints .u8 32 (p0)]) (N:=32) (k:=.u8) (base:=0) (lo:=0) (hi:=32) (mz:=32) (.there .here) rfl (by decide)) w hw)))<|Zg (Zx fun b6 hb6=>Zg (Zu (q:=[.ints .u8 64 (y5)]) rfl rfl rfl rfl rfl .here<|Z1<|Z0<|cH h fun c8 h=>bH h fun z9 ez9 h=>oH h fun y10 ey10 h=>Zv<|Z8 _ (Z8w rfl .no (.yes rfl) .no (by simp) (by decide))<|Z8 _ (Zo7 rfl (Shp.blk (lo:=0) (hi:=32) (mz:=64) (by decide) (by simp [Z08])) (by decide) c8)<|Z8 _ (Z8w rfl (.yes rfl) .no .no (by simp) (by decide))<|Zp _ (az (fun z=>agg [.ints .u8 32 z]) ez9 (Zu7 rfl (Z1x (s:=[.ints .u8 64 (y5)]) (N:=64) (k:=.u8) (base:=0) (lo:=0) (hi:=32) (mz:=64) .here rfl (by decide)) (by decide) c8))<|Z8 _ (Z1a rfl (Zeb ey10))<|Z2j rfl (Zu (q:=[.ints .u8 32 (y10)]) rfl rfl rfl rfl rfl (.there .here)<|Z8 _ (Z15 rfl)<|Z05<|Zk ?_)))))
 revert h; refine Zy fun h=>?_
 subst h
 exact ⟨_,_,(.cons (.agg rfl (.there .here) rfl) (.cons (.tmp rfl) .nil)),(.one .here .nil),⟨_,rfl,⟨(.slice (some (Z20 b6 0 32 64 1)) (64-32) (64-32)),[ck b6 94 [.ints .u8 64 (y5)]],rfl,rfl,(Zip (s:=[.ints .u8 64 (y5)]) (N:=64) (k:=.u8) (base:=0) (lo:=32) (hi:=64) (mz:=64) rfl (by decide))⟩⟩⟩
def Z41 (p0:List Int):OL :=
 bnd (p0.getD 0 0) fun z5 =>
 bnd (Z4 .and .u64 z5 2251799813685247) fun z6 =>
 bnd (p0.getD 4 0) fun z7 =>
 bnd (Zi .u64 z7 51) fun z8 =>
 bnd (IntKind.wrap .u64 (z8*19)) fun z9 =>
 bnd (IntKind.wrap .u64 (z6+z9)) fun z10 =>
 bnd (p0.getD 1 0) fun z11 =>
 bnd (Z4 .and .u64 z11 2251799813685247) fun z12 =>
 bnd (p0.getD 0 0) fun z13 =>
 bnd (Zi .u64 z13 51) fun z14 =>
 bnd (IntKind.wrap .u64 (z12+z14)) fun z15 =>
 bnd (p0.getD 2 0) fun z16 =>
 bnd (Z4 .and .u64 z16 2251799813685247) fun z17 =>
 bnd (p0.getD 1 0) fun z18 =>
 bnd (Zi .u64 z18 51) fun z19 =>
 bnd (IntKind.wrap .u64 (z17+z19)) fun z20 =>
 bnd (p0.getD 3 0) fun z21 =>
 bnd (Z4 .and .u64 z21 2251799813685247) fun z22 =>
 bnd (p0.getD 2 0) fun z23 =>
 bnd (Zi .u64 z23 51) fun z24 =>
 bnd (IntKind.wrap .u64 (z22+z24)) fun z25 =>
 bnd (p0.getD 4 0) fun z26 =>
 bnd (Z4 .and .u64 z26 2251799813685247) fun z27 =>
 bnd (p0.getD 3 0) fun z28 =>
 bnd (Zi .u64 z28 51) fun z29 =>
 bnd (IntKind.wrap .u64 (z27+z29)) fun z30 =>
 bnd (([z10,z15,z20,z25,z30]:List Int)) fun z31 =>
 some z31
theorem Z3o {W:World} {r:(List Int)} {p0:List Int} (h:Z41 p0=some r)  :
    Calls Tryz.prog 156 [agg [.ints .u64 5 (p0)]].toArray W (Z51 W (agg [.ints .u64 5 (r)])):=by
 unfold Z41 at h
 refine Zd mo Z0dr rfl ?_
 refine Z0<|Z2<|Zg (Z16 (s:=[.ints .u64 5 (p0)]) rfl fun b2 hb2=>Zg (Zx fun b3 hb3=>Z1<|Z0<|bH h fun z5 ez5 h=>bH h fun z6 ez6 h=>bH h fun z7 ez7 h=>bH h fun z8 ez8 h=>bH h fun z9 ez9 h=>bH h fun z10 ez10 h=>bH h fun z11 ez11 h=>bH h fun z12 ez12 h=>bH h fun z13 ez13 h=>bH h fun z14 ez14 h=>bH h fun z15 ez15 h=>bH h fun z16 ez16 h=>bH h fun z17 ez17 h=>bH h fun z18 ez18 h=>bH h fun z19 ez19 h=>bH h fun z20 ez20 h=>bH h fun z21 ez21 h=>bH h fun z22 ez22 h=>bH h fun z23 ez23 h=>bH h fun z24 ez24 h=>bH h fun z25 ez25 h=>bH h fun z26 ez26 h=>bH h fun z27 ez27 h=>bH h fun z28 ez28 h=>bH h fun z29 ez29 h=>bH h fun z30 ez30 h=>bH h fun z31 ez31 h=>Z2<|Z6 _ (Z3d rfl rfl (by decide))<|Z6 _ (iz ez5 (Z2g rfl (.there .here) rfl))<|Z6 _ (iz ez6 (Za rfl rfl rfl))<|Z6 _ (Z3d rfl rfl (by decide))<|Z6 _ (iz ez7 (Z2g rfl (.there .here) rfl))<|Z6 _ (iz ez8 (Z7a rfl rfl (by decide)))<|Z6 _ (iz ez9 (Za rfl rfl rfl))<|Z6 _ (iz ez10 (Za rfl rfl rfl))<|Z6 _ (Z3d rfl rfl (by decide))<|Z6 _ (iz ez11 (Z2g rfl (.there .here) rfl))<|Z6 _ (iz ez12 (Za rfl rfl rfl))<|Z6 _ (Z3d rfl rfl (by decide))<|Z6 _ (iz ez13 (Z2g rfl (.there .here) rfl))<|Z6 _ (iz ez14 (Z7a rfl rfl (by decide)))<|Z6 _ (iz ez15 (Za rfl rfl rfl))<|Z6 _ (Z3d rfl rfl (by decide))<|Z6 _ (iz ez16 (Z2g rfl (.there .here) rfl))<|Z6 _ (iz ez17 (Za rfl rfl rfl))<|Z6 _ (Z3d rfl rfl (by decide))<|Z6 _ (iz ez18 (Z2g rfl (.there .here) rfl))<|Z6 _ (iz ez19 (Z7a rfl rfl (by decide)))<|Z6 _ (iz ez20 (Za rfl rfl rfl))<|Z6 _ (Z3d rfl rfl (by decide))<|Z6 _ (iz ez21 (Z2g rfl (.there .here) rfl))<|Z6 _ (iz ez22 (Za rfl rfl rfl))<|Z6 _ (Z3d rfl rfl (by decide))<|Z6 _ (iz ez23 (Z2g rfl (.there .here) rfl))<|Z6 _ (iz ez24 (Z7a rfl rfl (by decide)))<|Z6 _ (iz ez25 (Za rfl rfl rfl))<|Z6 _ (Z3d rfl rfl (by decide))<|Z6 _ (iz ez26 (Z2g rfl (.there .here) rfl))<|Z6 _ (iz ez27 (Za rfl rfl rfl))<|Z6 _ (Z3d rfl rfl (by decide))<|Z6 _ (iz ez28 (Z2g rfl (.there .here) rfl))<|Z6 _ (iz ez29 (Z7a rfl rfl (by decide)))<|Z6 _ (iz ez30 (Za rfl rfl rfl))<|Z6 _ (az (fun z=>agg [.ints .u64 5 z]) ez31 (Zdv (.one rfl rfl rfl (.one rfl rfl rfl (.one rfl rfl rfl (.one rfl rfl rfl (.one rfl rfl rfl BdR.nil)))))))<|Zg (Zu (q:=[.ints .u64 5 (z31)]) rfl rfl rfl rfl rfl .here<|Z1<|Zk ?_)))
 revert h; refine Zy fun h=>?_
 subst h
 exact ⟨_,(.cons (.agg rfl .here rfl) .nil),rfl⟩
def Z99 (y6:(List Int)) (k47:(Int)→OL) (k70:(Int)→(Int)→OL) (i68:Int) (i69:Int):OL :=
 br ((decide (i69<4))) (
 chk (inB i69 (tk y6 1 (5-1)).length) <|
 bnd ((tk y6 1 (5-1)).getD (i69).toNat 0) fun z76 =>
 bnd (IntKind.wrap .u64 (z76+i68)) fun z78 =>
 bnd (Zi .u64 z78 51) fun z79 =>
 bnd (IntKind.wrap .i64 (i69+1)) fun z81 =>
 k70 z79 z81
 ) (
 k47 i68
 )
def Z4a (y6:(List Int)) (k47:(Int)→OL):Nat→(Int)→(Int)→OL
  | 0,_,_=>none
  | n+1,i68,i69=>Z99 y6 k47 (Z4a y6 k47 n) i68 i69
def Z9a (k150:(List Int)→OL) (k189:(Int)→(List Int)→OL) (i187:Int) (a188:List Int):OL :=
 br ((decide (i187<4))) (
 bnd (IntKind.wrap .i64 (i187+1)) fun z195 =>
 chk (inB z195 5) <|
 chk (inB i187 5) <|
 bnd (a188.getD (z195).toNat 0) fun z198 =>
 bnd (a188.getD (i187).toNat 0) fun z199 =>
 bnd (Zi .u64 z199 51) fun z200 =>
 bnd (IntKind.wrap .u64 (z198+z200)) fun z201 =>
 chk (inB z195 5) <|
 bnd (Z4q a188 (z195).toNat z201) fun l203 =>
 chk (inB i187 5) <|
 bnd (l203.getD (i187).toNat 0) fun z206 =>
 bnd (Z4 .and .u64 z206 2251799813685247) fun z207 =>
 chk (inB i187 5) <|
 bnd (Z4q l203 (i187).toNat z207) fun l209 =>
 bnd (IntKind.wrap .i64 (i187+1)) fun z211 =>
 k189 z211 l209
 ) (
 k150 a188
 )
def Z4b (k150:(List Int)→OL):Nat→(Int)→(List Int)→OL
  | 0,_,_=>none
  | n+1,i187,a188=>Z9a k150 (Z4b k150 n) i187 a188
def Z0y (p0:List Int):OL :=
 opt (Z41 p0) fun y5 =>
 opt (Z41 y5) fun y6 =>
 bnd (y6.getD 0 0) fun z8 =>
 bnd (IntKind.wrap .u64 (z8+19)) fun z9 =>
 bnd (Zi .u64 z9 51) fun z10 =>
 jn (fun (i46:Int)=>bnd (y6.getD 0 0) fun z83 =>
 bnd (IntKind.wrap .u64 (19*i46)) fun z84 =>
 bnd (IntKind.wrap .u64 (z83+z84)) fun z85 =>
 bnd (Z4q y6 0 z85) fun l86 =>
 jn (fun (a149:List Int)=>bnd (a149.getD 4 0) fun z213 =>
 bnd (Z4 .and .u64 z213 2251799813685247) fun z214 =>
 bnd (Z4q a149 4 z214) fun l215 =>
 some l215) fun k150=>Z4b k150 big 0 l86) fun k47=>Z4a y6 k47 big z10 0
theorem Z0f {W:World} {r:(List Int)} {p0:List Int} (h:Z0y p0=some r)  :
    Calls Tryz.prog 155 [agg [.ints .u64 5 (p0)]].toArray W (Z51 W (agg [.ints .u64 5 (r)])):=by
 unfold Z0y at h
 refine Zd mo Z0dq rfl ?_
 refine Z0<|Z2<|Zg (Z16 (s:=[.ints .u64 5 (p0)]) rfl fun b2 hb2=>Zg (Zx fun b3 hb3=>Z1<|Z0<|oH h fun y5 ey5 h=>oH h fun y6 ey6 h=>Z2<|Z6 _ (Z03 (p:=[.ints .u64 5 (p0)]) rfl (.there .here) rfl)<|Z6 _ (Z1a rfl (Z3o ey5))<|Z6 _ (Z1a rfl (Z3o ey6))<|Zg (Zu (q:=[.ints .u64 5 (y6)]) rfl rfl rfl rfl rfl (.there .here)<|Z1<|Z0<|bH h fun z8 ez8 h=>bH h fun z9 ez9 h=>bH h fun z10 ez10 h=>Z2<|Z6 _ (Z3d rfl rfl (by decide))<|Z6 _ (iz ez8 (Z2g rfl (.there .here) rfl))<|Z6 _ (iz ez9 (Za rfl rfl rfl))<|Z6 _ (iz ez10 (Z7a rfl rfl (by decide)))<|Z7 rfl<|Z1<|Z0<|Z0<|Z2<|Z6 _ (Z8w rfl (.yes rfl) .no .no (by simp) (by decide))<|Z6 _ (Zqd rfl)<|Z7 rfl<|Z1<|jH h fun k47 qk47 h=>Zo (G:=fun t m=>∃ (i46:Int),k47 i46=some r∧Fit [(1,.pointer (some ⟨b2,0,none⟩)),(2,.pointer (some ⟨b3,0,none⟩)),(3,.int .u64 (i46))] (ck b3 80 [.ints .u64 5 ((List.replicate 5 0))]::(ck b2 80 [.ints .u64 5 (y6)] :: [])) t m) ?_ ?_)))
 ·refine Zb<|Z01 (fun n71 t m=>∃ (i68:Int) (i69:Int),Z4a y6 k47 n71 i68 i69=some r∧Fit [(1,.pointer (some ⟨b2,0,none⟩)),(2,.pointer (some ⟨b3,0,none⟩)),(3,.int .u64 (i68)),(14,(.slice (some (Z20 b2 0 1 5 1)) (5-1) (5-1))),(15,.int .i64 4),(16,.int .i64 (i69))] (ck b3 80 [.ints .u64 5 ((List.replicate 5 0))]::(ck b2 80 [.ints .u64 5 (y6)] :: [])) t m) big ?_ ?_
  ·exact ⟨z10,0,h,⟨⟨rfl,rfl,rfl,rfl,rfl,rfl,trivial⟩,(.one .here (.one .here .nil))⟩⟩
  ·rintro n71 t m ⟨i68,i69,h,hF⟩
   refine Zn hF ?_
   clear hF
   rcases n71 with _ | n71
   · exact Z1d h
   have h:Z99 y6 k47 (Z4a y6 k47 n71) i68 i69=some r:=h
   unfold Z99 at h
   obtain ⟨k70,qk70⟩ : ∃ k,k=Z4a y6 k47 n71:=⟨_,rfl⟩
   try rw [← qk70] at h
   refine Z0<|Z2<|Z6 _ (Za rfl rfl rfl)<|Z1<|Z0<|Z0s h rfl (fun h=>?_) (fun h=>?_)
   ·refine Zm<|Z0<|Zb<|Z0<|cH h fun c75 h=>bH h fun z76 ez76 h=>Z2<|Z6 _ (Z3a rfl rfl (Shp.blk (lo:=1) (hi:=5) (mz:=5) (by decide) (by simp [Z08])) c75)<|Z6 _ (iz ez76 (Z9y (E:=(El.int .u64)) (s:=[.one (.int .u64 ((tk y6 1 (5-1)).getD (i69).toNat 0))]) rfl (Z1x (s:=[.ints .u64 5 (y6)]) (N:=5) (k:=.u64) (base:=0) (lo:=1) (hi:=5) (mz:=5) (.there .here) rfl (by decide)) (Z0w c75) rfl rfl))<|Z7 rfl<|Z1<|bH h fun z78 ez78 h=>bH h fun z79 ez79 h=>Z2<|Z7 rfl<|Z7 rfl<|Z6 _ (iz ez78 (Za rfl rfl rfl))<|Z6 _ (iz ez79 (Z7a rfl rfl (by decide)))<|Z7 rfl<|Z1<|bH h fun z81 ez81 h=>Z2<|Z6 _ (iz ez81 (Za rfl rfl rfl))<|Z7 rfl<|Z1 ?_
    rw [qk70] at h
    exact ⟨n71,Nat.lt_succ_self _,z79,z81,h,⟨⟨rfl,rfl,rfl,rfl,rfl,rfl,trivial⟩,(.one .here (.one .here .nil))⟩⟩
   ·exact Z0e _ rfl<|⟨i68,h,⟨⟨rfl,rfl,rfl,trivial⟩,(.one .here (.one .here .nil))⟩⟩
 ·rintro t m ⟨i46,h,hF⟩
  refine Zn hF ?_
  clear hF
  subst qk47
  refine Z0<|bH h fun z83 ez83 h=>bH h fun z84 ez84 h=>bH h fun z85 ez85 h=>bH h fun l86 el86 h=>Z2<|Z6 _ (Z3d rfl rfl (by decide))<|Z6 _ (iz ez83 (Z2g rfl (.there .here) rfl))<|Z7 rfl<|Z6 _ (iz ez84 (Za rfl rfl rfl))<|Z6 _ (iz ez85 (Za rfl rfl rfl))<|Z6 _ (Z3d rfl rfl (by decide))<|Zg (Z98 (q:=[.ints .u64 5 (l86)]) (congrArg (fun z=>([.ints .u64 5 (z)]:List Seg)) el86.symm) rfl rfl rfl rfl (.there .here)<|Z1<|Z0<|Z0<|Z2<|Z7 rfl<|Z1<|jH h fun k150 qk150 h=>Zo (G:=fun t m=>∃ (a149:List Int),k150 a149=some r∧Fit [(1,.pointer (some ⟨b2,0,none⟩)),(2,.pointer (some ⟨b3,0,none⟩))] (ck b3 80 [.ints .u64 5 ((List.replicate 5 0))]::(ck b2 80 [.ints .u64 5 (a149)] :: [])) t m) ?_ ?_)
  ·refine Zb<|Z01 (fun n190 t m=>∃ (i187:Int) (a188:List Int),Z4b k150 n190 i187 a188=some r∧Fit [(1,.pointer (some ⟨b2,0,none⟩)),(2,.pointer (some ⟨b3,0,none⟩)),(31,.int .i64 (i187))] (ck b3 80 [.ints .u64 5 ((List.replicate 5 0))]::(ck b2 80 [.ints .u64 5 (a188)] :: [])) t m) big ?_ ?_
   ·exact ⟨0,l86,h,⟨⟨rfl,rfl,rfl,trivial⟩,(.one .here (.one .here .nil))⟩⟩
   ·rintro n190 t m ⟨i187,a188,h,hF⟩
    refine Zn hF ?_
    clear hF
    rcases n190 with _ | n190
    · exact Z1d h
    have h:Z9a k150 (Z4b k150 n190) i187 a188=some r:=h
    unfold Z9a at h
    obtain ⟨k189,qk189⟩ : ∃ k,k=Z4b k150 n190:=⟨_,rfl⟩
    try rw [← qk189] at h
    refine Z0<|Z2<|Z6 _ (Za rfl rfl rfl)<|Z1<|Z0<|Z0s h rfl (fun h=>?_) (fun h=>?_)
    ·refine Zm<|Z0<|Zb<|Z0<|Z2<|Z7 rfl<|Z7 rfl<|Z1<|Z0<|bH h fun z195 ez195 h=>cH h fun c196 h=>cH h fun c197 h=>bH h fun z198 ez198 h=>bH h fun z199 ez199 h=>bH h fun z200 ez200 h=>bH h fun z201 ez201 h=>cH h fun c202 h=>bH h fun l203 el203 h=>Zv<|Z8 _ (Z15 rfl)<|Z8 _ (iz ez195 (Za rfl rfl rfl))<|Z8 _ (Z3d rfl rfl (Z1t c196))<|Z8 _ (Z15 rfl)<|Z8 _ (Z3d rfl rfl (Z1t c197))<|Zp _ (iz ez198 (Z8r (base:=0) rfl (.there .here) rfl (Z0w c196)))<|Zp _ (iz ez199 (Z8r (base:=0) rfl (.there .here) rfl (Z0w c197)))<|Z8 _ (iz ez200 (Z7a rfl rfl (by decide)))<|Z8 _ (iz ez201 (Za rfl rfl rfl))<|Z8 _ (Z3d rfl rfl (Z1t c202))<|Z2j rfl (Z5g (q:=[.ints .u64 5 (l203)]) (base:=0) el203 rfl rfl rfl (Z0w c202) rfl (.there .here)<|Z05<|cH h fun c205 h=>bH h fun z206 ez206 h=>bH h fun z207 ez207 h=>cH h fun c208 h=>bH h fun l209 el209 h=>Z2<|Z7 rfl<|Z6 _ (Z3d rfl rfl (Z1t c205))<|Z6 _ (iz ez206 (Z8r (base:=0) rfl (.there .here) rfl (Z0w c205)))<|Z6 _ (iz ez207 (Za rfl rfl rfl))<|Z6 _ (Z3d rfl rfl (Z1t c208))<|Zg (Z5g (q:=[.ints .u64 5 (l209)]) (base:=0) el209 rfl rfl rfl (Z0w c208) rfl (.there .here)<|Z1<|bH h fun z211 ez211 h=>Z2<|Z6 _ (iz ez211 (Za rfl rfl rfl))<|Z7 rfl<|Z1 ?_))
     rw [qk189] at h
     exact ⟨n190,Nat.lt_succ_self _,z211,l209,h,⟨⟨rfl,rfl,rfl,trivial⟩,(.one .here (.one .here .nil))⟩⟩
    ·exact Z0e _ rfl<|⟨a188,h,⟨⟨rfl,rfl,trivial⟩,(.one .here (.one .here .nil))⟩⟩
  ·rintro t m ⟨a149,h,hF⟩
   refine Zn hF ?_
   clear hF
   subst qk150
   refine Z0<|bH h fun z213 ez213 h=>bH h fun z214 ez214 h=>bH h fun l215 el215 h=>Z2<|Z6 _ (Z3d rfl rfl (by decide))<|Z6 _ (iz ez213 (Z2g rfl (.there .here) rfl))<|Z6 _ (iz ez214 (Za rfl rfl rfl))<|Z6 _ (Z3d rfl rfl (by decide))<|Zg (Z98 (q:=[.ints .u64 5 (l215)]) (congrArg (fun z=>([.ints .u64 5 (z)]:List Seg)) el215.symm) rfl rfl rfl rfl (.there .here)<|Z1<|Z0<|Z2<|Z6 _ (Z03 (p:=[.ints .u64 5 (l215)]) rfl (.there .here) rfl)<|Zg (Zu (q:=[.ints .u64 5 (l215)]) rfl rfl rfl rfl rfl .here<|Z1<|Zk ?_))
   revert h; refine Zy fun h=>?_
   subst h
   exact ⟨_,(.cons (.agg rfl .here rfl) .nil),rfl⟩
def Z4d (p0:Int) (p1:Int):Option (Int×Int) :=
 bnd (Z4 .and .u64 p0 4294967295) fun z3 =>
 bnd (Zi .u64 p0 32) fun z5 =>
 bnd (Z4 .and .u64 p1 4294967295) fun z7 =>
 bnd (Zi .u64 p1 32) fun z9 =>
 bnd (IntKind.wrap .u64 (z3*z7)) fun z11 =>
 bnd (IntKind.wrap .u64 (z5*z7)) fun z13 =>
 bnd (Zi .u64 z11 32) fun z14 =>
 bnd (IntKind.wrap .u64 (z13+z14)) fun z15 =>
 bnd (Z4 .and .u64 z15 4294967295) fun z17 =>
 bnd (Zi .u64 z15 32) fun z19 =>
 bnd (IntKind.wrap .u64 (z3*z9)) fun z21 =>
 bnd (IntKind.wrap .u64 (z17+z21)) fun z22 =>
 bnd (IntKind.wrap .u64 (z5*z9)) fun z24 =>
 bnd (IntKind.wrap .u64 (z24+z19)) fun z25 =>
 bnd (Zi .u64 z22 32) fun z26 =>
 bnd (IntKind.wrap .u64 (z25+z26)) fun z27 =>
 bnd (IntKind.wrap .u64 (p0*p1)) fun z29 =>
 some (z27,z29)
theorem Z8u {W:World} {r:Int×Int} {p0:Int} {p1:Int} (h:Z4d p0 p1=some r)  :
    Calls Tryz.prog 200 [.int .u64 (p0),.int .u64 (p1)].toArray W (Z51 W (.tuple #[.int .u64 (r.1),.int .u64 (r.2)])):=by
 unfold Z4d at h
 refine Zd mo Z0eb rfl ?_
 refine Z0<|Z2<|Z7 rfl<|Z7 rfl<|Z1<|Z0<|bH h fun z3 ez3 h=>Z2<|Z7 rfl<|Z6 _ (iz ez3 (Za rfl rfl rfl))<|Z7 rfl<|Z1<|Z0<|bH h fun z5 ez5 h=>Z2<|Z7 rfl<|Z6 _ (iz ez5 (Z7a rfl rfl (by decide)))<|Z7 rfl<|Z1<|Z0<|bH h fun z7 ez7 h=>Z2<|Z7 rfl<|Z6 _ (iz ez7 (Za rfl rfl rfl))<|Z7 rfl<|Z1<|Z0<|bH h fun z9 ez9 h=>Z2<|Z7 rfl<|Z6 _ (iz ez9 (Z7a rfl rfl (by decide)))<|Z7 rfl<|Z1<|Z0<|bH h fun z11 ez11 h=>Z2<|Z7 rfl<|Z7 rfl<|Z6 _ (iz ez11 (Za rfl rfl rfl))<|Z7 rfl<|Z1<|Z0<|bH h fun z13 ez13 h=>bH h fun z14 ez14 h=>bH h fun z15 ez15 h=>Z2<|Z7 rfl<|Z7 rfl<|Z6 _ (iz ez13 (Za rfl rfl rfl))<|Z7 rfl<|Z6 _ (iz ez14 (Z7a rfl rfl (by decide)))<|Z6 _ (iz ez15 (Za rfl rfl rfl))<|Z7 rfl<|Z1<|Z0<|bH h fun z17 ez17 h=>Z2<|Z7 rfl<|Z6 _ (iz ez17 (Za rfl rfl rfl))<|Z7 rfl<|Z1<|Z0<|bH h fun z19 ez19 h=>Z2<|Z7 rfl<|Z6 _ (iz ez19 (Z7a rfl rfl (by decide)))<|Z7 rfl<|Z1<|Z0<|bH h fun z21 ez21 h=>bH h fun z22 ez22 h=>Z2<|Z7 rfl<|Z7 rfl<|Z7 rfl<|Z6 _ (iz ez21 (Za rfl rfl rfl))<|Z6 _ (iz ez22 (Za rfl rfl rfl))<|Z7 rfl<|Z1<|Z0<|bH h fun z24 ez24 h=>bH h fun z25 ez25 h=>bH h fun z26 ez26 h=>bH h fun z27 ez27 h=>Z2<|Z7 rfl<|Z7 rfl<|Z6 _ (iz ez24 (Za rfl rfl rfl))<|Z7 rfl<|Z6 _ (iz ez25 (Za rfl rfl rfl))<|Z7 rfl<|Z6 _ (iz ez26 (Z7a rfl rfl (by decide)))<|Z6 _ (iz ez27 (Za rfl rfl rfl))<|Z7 rfl<|Z1<|Z0<|bH h fun z29 ez29 h=>Z2<|Z7 rfl<|Z7 rfl<|Z6 _ (iz ez29 (Za rfl rfl rfl))<|Z7 rfl<|Z1<|Zk ?_
 revert h; refine Zy fun h=>?_
 subst h
 exact ⟨_,(.cons (.tmp rfl) (.cons (.tmp rfl) .nil)),rfl⟩
def Z22 (p0:List Int) (o:Nat) (L:Nat) (p1:Int) (p2:Int):OL :=
 opt (Z4d p1 p2) fun y2 =>
 chk (decide (o+1<L)) <|
 bnd (p0.getD (o+1) 0) fun z6 =>
 chk (Zb7 z6 y2.2 0) <|
 bnd (Z8a z6 y2.2 0) fun z8 =>
 bnd (Zbb z6 y2.2 0) fun z9 =>
 chk (decide (o+1<L)) <|
 bnd (Z4q p0 (o+1) z8) fun l11 =>
 chk (decide (o+0<L)) <|
 bnd (l11.getD (o+0) 0) fun z14 =>
 chk (Zb7 z14 y2.1 z9) <|
 bnd (Z8a z14 y2.1 z9) fun z16 =>
 bnd (Zbb z14 y2.1 z9) fun z17 =>
 chk (decide (o+0<L)) <|
 bnd (Z4q l11 (o+0) z16) fun l19 =>
 some l19
theorem Z6l {W:World} {r:(List Int)} {p0:List Int} {o:Nat} {L:Nat} {p1:Int} {p2:Int} {b:Nat} {T:TypeId} (h:Z22 p0 o L p1 p2=some r) (h0:Sat W [b] (ck b T [.ints .u64 L (p0)] :: []) W) :
    Calls Tryz.prog 157 [.pointer (some ⟨b,o,none⟩),.int .u64 (p1),.int .u64 (p2)].toArray W (Zdw W [b] (fun v Ms=>v = .tuple #[]∧Ms = [.one (ck b T [.ints .u64 L (r)])])):=by
 unfold Z22 at h
 refine Z0o mo Z0ds rfl h0 ?_
 refine Z0<|oH h fun y2 ey2 h=>Z2<|Z7 rfl<|Z7 rfl<|Z6 _ (Z1a rfl (Z8u ey2))<|Z7 rfl<|Z6 _ (Z19 rfl rfl)<|Z6 _ (Z19 rfl rfl)<|Z7 rfl<|Z7 rfl<|Z1<|Z0<|Z2<|Z7 rfl<|Z1<|Z0<|cH h fun c5 h=>bH h fun z6 ez6 h=>cH h fun c7 h=>bH h fun z8 ez8 h=>bH h fun z9 ez9 h=>cH h fun c10 h=>bH h fun l11 el11 h=>Z2<|Z7 rfl<|Z7 rfl<|Z6 _ (Z59 rfl)<|Z6 _ (Z64 rfl)<|Z6 _ (Zrw (base:=0) (i:=o+1) ez6 rfl .here rfl (by omega) c5)<|Z7 rfl<|Z6 _ (Zbs rfl Zcw (Zvu ez8 ez9 c7))<|Z7 rfl<|Z6 _ (Z19 rfl rfl)<|Z6 _ (Z19 rfl rfl)<|Z6 _ (Z59 rfl)<|Z6 _ (Z64 rfl)<|Zg (Zn8 (base:=0) (i:=o+1) (q:=[.ints .u64 L l11]) el11 rfl rfl rfl (by omega) c10 (by simp [Zb5,Seg.width]) .here<|Z7 rfl<|Z1<|cH h fun c13 h=>bH h fun z14 ez14 h=>cH h fun c15 h=>bH h fun z16 ez16 h=>bH h fun z17 ez17 h=>cH h fun c18 h=>bH h fun l19 el19 h=>Z2<|Z7 rfl<|Z7 rfl<|Z6 _ (Z59 rfl)<|Z6 _ (Z64 rfl)<|Z6 _ (Zrw (base:=0) (i:=o+0) ez14 rfl .here rfl (by omega) c13)<|Z7 rfl<|Z7 rfl<|Z6 _ (Zbs rfl Zcw (Zvu ez16 ez17 c15))<|Z7 rfl<|Z6 _ (Z19 rfl rfl)<|Z6 _ (Z19 rfl rfl)<|Z6 _ (Z59 rfl)<|Z6 _ (Z64 rfl)<|Zg (Zn8 (base:=0) (i:=o+0) (q:=[.ints .u64 L l19]) el19 rfl rfl rfl (by omega) c18 (by simp [Zb5,Seg.width]) .here<|Z1 ?_))
 revert h; refine Zy fun h=>?_
 subst h
 exact ⟨_,_,.nil,(.one .here .nil),⟨_,rfl,⟨rfl,rfl⟩⟩⟩
def Z5h (y7:(List Int)) (i1369:Int) (z1377:Int) (k1520:(List Int)→OL) (k1613:(Int)→(List Int)→OL) (i1611:Int) (a1612:List Int):OL :=
 br ((decide (i1611<5))) (
 jn (fun (a1637:List Int)=>bnd (IntKind.wrap .i64 (i1611+1)) fun z1660 =>
 k1613 z1660 a1637) fun k1638=>chk (inB i1611 5) <|
 bnd (y7.getD (i1611).toNat 0) fun z1641 =>
 bnd (IntKind.wrap .i64 (i1369+i1611)) fun z1643 =>
 br ((decide (z1643<5))) (
 bnd (IntKind.wrap .i64 (i1369+i1611)) fun z1646 =>
 chk (inB z1646 5) <|
 opt (Z22 a1612 (0+(z1646).toNat*2) 10 z1377 z1641) fun y1648 =>
 k1638 y1648
 ) (
 bnd (IntKind.wrap .i64 (i1369+i1611)) fun z1652 =>
 bnd (IntKind.wrap .i64 (z1652-5)) fun z1653 =>
 chk (inB z1653 5) <|
 bnd (IntKind.wrap .u64 (19*z1641)) fun z1655 =>
 opt (Z22 a1612 (0+(z1653).toNat*2) 10 z1377 z1655) fun y1656 =>
 k1638 y1656
 )
 ) (
 k1520 a1612
 )
def Z4k (y7:(List Int)) (i1369:Int) (z1377:Int) (k1520:(List Int)→OL):Nat→(Int)→(List Int)→OL
  | 0,_,_=>none
  | n+1,i1611,a1612=>Z5h y7 i1369 z1377 k1520 (Z4k y7 i1369 z1377 k1520 n) i1611 a1612
def Z8f (y6:(List Int)) (y7:(List Int)) (k837:(List Int)→OL) (k1371:(Int)→(List Int)→OL) (i1369:Int) (a1370:List Int):OL :=
 br ((decide (i1369<5))) (
 chk (inB i1369 5) <|
 bnd (y6.getD (i1369).toNat 0) fun z1377 =>
 jn (fun (a1519:List Int)=>bnd (IntKind.wrap .i64 (i1369+1)) fun z1662 =>
 k1371 z1662 a1519) fun k1520=>Z4k y7 i1369 z1377 k1520 big 0 a1370
 ) (
 k837 a1370
 )
def Z2o (y6:(List Int)) (y7:(List Int)) (k837:(List Int)→OL):Nat→(Int)→(List Int)→OL
  | 0,_,_=>none
  | n+1,i1369,a1370=>Z8f y6 y7 k837 (Z2o y6 y7 k837 n) i1369 a1370
def Z6v (a836:List Int) (k1742:(Int)→(List Int)→OL) (k1791:(Int)→(Int)→(List Int)→OL) (i1788:Int) (i1789:Int) (a1790:List Int):OL :=
 br ((decide (i1789<5))) (
 chk (inB i1789 5) <|
 bnd (tk a836 ((i1789).toNat*2) 2) fun l1797 =>
 bnd (l1797.getD 1 0) fun z1800 =>
 chk (Zb7 z1800 i1788 0) <|
 bnd (Z8a z1800 i1788 0) fun z1802 =>
 bnd (Zbb z1800 i1788 0) fun z1803 =>
 bnd (Z4 .and .u64 z1802 2251799813685247) fun z1805 =>
 chk (inB i1789 5) <|
 bnd (Z4q a1790 (i1789).toNat z1805) fun l1807 =>
 bnd (l1797.getD 0 0) fun z1809 =>
 bnd (IntKind.wrap .u64 (z1809+z1803)) fun z1810 =>
 bnd (Zq .u64 z1810 13) fun z1811 =>
 bnd (Zi .u64 z1802 51) fun z1812 =>
 bnd (Z4 .or .u64 z1811 z1812) fun z1813 =>
 bnd (IntKind.wrap .i64 (i1789+1)) fun z1815 =>
 k1791 z1813 z1815 l1807
 ) (
 k1742 i1788 a1790
 )
def Z39 (a836:List Int) (k1742:(Int)→(List Int)→OL):Nat→(Int)→(Int)→(List Int)→OL
  | 0,_,_,_=>none
  | n+1,i1788,i1789,a1790=>Z6v a836 k1742 (Z39 a836 k1742 n) i1788 i1789 a1790
def Z09 (p0:List Int) (p1:List Int):OL :=
 opt (Z41 p0) fun y6 =>
 opt (Z41 p1) fun y7 =>
 jn (fun (a836:List Int)=>jn (fun (i1740:Int) (a1741:List Int)=>opt (Z22 (List.replicate 2 0) 0 2 i1740 19) fun y1819 =>
 bnd (y1819.getD 1 0) fun z1823 =>
 bnd (a1741.getD 0 0) fun z1824 =>
 chk (Zb7 z1823 z1824 0) <|
 bnd (Z8a z1823 z1824 0) fun z1826 =>
 bnd (Zbb z1823 z1824 0) fun z1827 =>
 bnd (Z4 .and .u64 z1826 2251799813685247) fun z1829 =>
 bnd (Z4q a1741 0 z1829) fun l1830 =>
 bnd (l1830.getD 1 0) fun z1832 =>
 bnd (y1819.getD 0 0) fun z1833 =>
 bnd (IntKind.wrap .u64 (z1833+z1827)) fun z1834 =>
 bnd (Zq .u64 z1834 13) fun z1835 =>
 bnd (Zi .u64 z1826 51) fun z1836 =>
 bnd (Z4 .or .u64 z1835 z1836) fun z1837 =>
 bnd (IntKind.wrap .u64 (z1832+z1837)) fun z1838 =>
 bnd (Z4q l1830 1 z1838) fun l1839 =>
 opt (Z0y l1839) fun y1841 =>
 some y1841) fun k1742=>Z39 a836 k1742 big 0 0 (List.replicate 5 0)) fun k837=>Z2o y6 y7 k837 big 0 (List.replicate 10 0)
theorem Zw {W:World} {r:(List Int)} {p0:List Int} {p1:List Int} (h:Z09 p0 p1=some r)  :
    Calls Tryz.prog 92 [agg [.ints .u64 5 (p0)],agg [.ints .u64 5 (p1)]].toArray W (Z51 W (agg [.ints .u64 5 (r)])):=by
 unfold Z09 at h
 refine Zd mo ok92 rfl ?_
 refine Z0<|Z2<|Zg (Z16 (s:=[.ints .u64 5 (p0)]) rfl fun b2 hb2=>Zg (Z16 (s:=[.ints .u64 5 (p1)]) rfl fun b3 hb3=>Zg (Zx fun b4 hb4=>Z1<|Z0<|oH h fun y6 ey6 h=>oH h fun y7 ey7 h=>Zv<|Zp _ (Z03 (p:=[.ints .u64 5 (p0)]) rfl (.there (.there .here)) rfl)<|Z8 _ (Z1a rfl (Z3o ey6))<|Zp _ (Z03 (p:=[.ints .u64 5 (p1)]) rfl (.there .here) rfl)<|Z8 _ (Z1a rfl (Z3o ey7))<|Z2j rfl (Zu (q:=[.ints .u64 5 (y6)]) rfl rfl rfl rfl rfl (.there (.there .here))<|Zr3 rfl (Zu (q:=[.ints .u64 5 (y7)]) rfl rfl rfl rfl rfl (.there .here)<|Z05<|Z0<|Z2<|Zg (Zx fun b9 hb9=>Z1<|Z0<|Z0<|Z2<|Z6 _ (Z03 (p:=[.ints .u64 5 (y6)]) rfl (.there (.there (.there .here))) rfl)<|Z7 rfl<|Z1<|jH h fun k837 qk837 h=>Zo (G:=fun t m=>∃ (a836:List Int),k837 a836=some r∧Fit [(4,.pointer (some ⟨b4,0,none⟩)),(5,.pointer (some ⟨b9,0,none⟩))] (ck b9 188 [.ints .u64 10 (a836)]::(ck b4 80 [.ints .u64 5 ((List.replicate 5 0))]::(ck b3 80 [.ints .u64 5 (y7)]::(ck b2 80 [.ints .u64 5 (y6)] :: [])))) t m) ?_ ?_))))))
 ·refine Zb<|Z01 (fun n1372 t m=>∃ (i1369:Int) (a1370:List Int),Z2o y6 y7 k837 n1372 i1369 a1370=some r∧Fit [(3,.pointer (some ⟨b3,0,none⟩)),(4,.pointer (some ⟨b4,0,none⟩)),(5,.pointer (some ⟨b9,0,none⟩)),(23,agg [.ints .u64 5 (y6)]),(24,.int .i64 (i1369))] (ck b9 188 [.ints .u64 10 (a1370)]::(ck b4 80 [.ints .u64 5 ((List.replicate 5 0))]::(ck b3 80 [.ints .u64 5 (y7)]::(ck b2 80 [.ints .u64 5 (y6)] :: [])))) t m) big ?_ ?_
  ·exact ⟨0,(List.replicate 10 0),h,⟨⟨rfl,rfl,rfl,rfl,rfl,trivial⟩,(.one .here (.one .here (.one .here (.one .here .nil))))⟩⟩
  ·rintro n1372 t m ⟨i1369,a1370,h,hF⟩
   refine Zn hF ?_
   clear hF
   rcases n1372 with _ | n1372
   · exact Z1d h
   have h:Z8f y6 y7 k837 (Z2o y6 y7 k837 n1372) i1369 a1370=some r:=h
   unfold Z8f at h
   obtain ⟨k1371,qk1371⟩ : ∃ k,k=Z2o y6 y7 k837 n1372:=⟨_,rfl⟩
   try rw [← qk1371] at h
   refine Z0<|Z2<|Z6 _ (Za rfl rfl rfl)<|Z1<|Z0<|Z0s h rfl (fun h=>?_) (fun h=>?_)
   ·refine Zm<|Z0<|Zb<|Z0<|cH h fun c1376 h=>bH h fun z1377 ez1377 h=>Z2<|Z7 rfl<|Z6 _ (iz ez1377 (Zel (len:=5) rfl rfl (Z1t c1376)))<|Z7 rfl<|Z7 rfl<|Z1<|Z0<|Z2<|Z6 _ (Z03 (p:=[.ints .u64 5 (y7)]) rfl (.there (.there .here)) rfl)<|Z7 rfl<|Z1<|jH h fun k1520 qk1520 h=>Zo (G:=fun t m=>∃ (a1519:List Int),k1520 a1519=some r∧Fit [(3,.pointer (some ⟨b3,0,none⟩)),(4,.pointer (some ⟨b4,0,none⟩)),(5,.pointer (some ⟨b9,0,none⟩)),(23,agg [.ints .u64 5 (y6)]),(24,.int .i64 (i1369))] (ck b9 188 [.ints .u64 10 (a1519)]::(ck b4 80 [.ints .u64 5 ((List.replicate 5 0))]::(ck b3 80 [.ints .u64 5 (y7)]::(ck b2 80 [.ints .u64 5 (y6)] :: [])))) t m) ?_ ?_
    ·refine Zb<|Z01 (fun n1614 t m=>∃ (i1611:Int) (a1612:List Int),Z4k y7 i1369 z1377 k1520 n1614 i1611 a1612=some r∧Fit [(3,.pointer (some ⟨b3,0,none⟩)),(4,.pointer (some ⟨b4,0,none⟩)),(5,.pointer (some ⟨b9,0,none⟩)),(6,.int .i64 (i1369)),(7,.int .u64 (z1377)),(23,agg [.ints .u64 5 (y6)]),(24,.int .i64 (i1369)),(28,agg [.ints .u64 5 (y7)]),(29,.int .i64 (i1611))] (ck b9 188 [.ints .u64 10 (a1612)]::(ck b4 80 [.ints .u64 5 ((List.replicate 5 0))]::(ck b3 80 [.ints .u64 5 (y7)]::(ck b2 80 [.ints .u64 5 (y6)] :: [])))) t m) big ?_ ?_
     ·exact ⟨0,a1370,h,⟨⟨rfl,rfl,rfl,rfl,rfl,rfl,rfl,rfl,rfl,trivial⟩,(.one .here (.one .here (.one .here (.one .here .nil))))⟩⟩
     ·rintro n1614 t m ⟨i1611,a1612,h,hF⟩
      refine Zn hF ?_
      clear hF
      rcases n1614 with _ | n1614
      · exact Z1d h
      have h:Z5h y7 i1369 z1377 k1520 (Z4k y7 i1369 z1377 k1520 n1614) i1611 a1612=some r:=h
      unfold Z5h at h
      obtain ⟨k1613,qk1613⟩ : ∃ k,k=Z4k y7 i1369 z1377 k1520 n1614:=⟨_,rfl⟩
      try rw [← qk1613] at h
      refine Z0<|Z2<|Z6 _ (Za rfl rfl rfl)<|Z1<|Z0<|Z0s h rfl (fun h=>?_) (fun h=>?_)
      ·refine Zm<|Z0<|jH h fun k1638 qk1638 h=>Zo (G:=fun t m=>∃ (a1637:List Int),k1638 a1637=some r∧Fit [(3,.pointer (some ⟨b3,0,none⟩)),(4,.pointer (some ⟨b4,0,none⟩)),(5,.pointer (some ⟨b9,0,none⟩)),(6,.int .i64 (i1369)),(7,.int .u64 (z1377)),(23,agg [.ints .u64 5 (y6)]),(24,.int .i64 (i1369)),(28,agg [.ints .u64 5 (y7)]),(29,.int .i64 (i1611))] (ck b9 188 [.ints .u64 10 (a1637)]::(ck b4 80 [.ints .u64 5 ((List.replicate 5 0))]::(ck b3 80 [.ints .u64 5 (y7)]::(ck b2 80 [.ints .u64 5 (y6)] :: [])))) t m) ?_ ?_
       ·refine Zb<|Z0<|cH h fun c1640 h=>bH h fun z1641 ez1641 h=>Z2<|Z7 rfl<|Z6 _ (iz ez1641 (Zel (len:=5) rfl rfl (Z1t c1640)))<|Z7 rfl<|Z7 rfl<|Z1<|Z0<|bH h fun z1643 ez1643 h=>Z2<|Z7 rfl<|Z7 rfl<|Z6 _ (iz ez1643 (Za rfl rfl rfl))<|Z6 _ (Za rfl rfl rfl)<|Z1<|Z0s h rfl (fun h=>?_) (fun h=>?_)
        ·refine bH h fun z1646 ez1646 h=>cH h fun c1647 h=>oH h fun y1648 ey1648 h=>Z2<|Z7 rfl<|Z7 rfl<|Z6 _ (iz ez1646 (Za rfl rfl rfl))<|Z6 _ (Z3d rfl rfl (Z1t c1647))<|Z7 rfl<|Z7 rfl<|Zg (Z4s (mS:=[_]) rfl (Z3z.perm .here) (fun w hw=>Z6l  ey1648 (Za0 hw (mS:=[_]) (Z3z.perm .here)) ) fun v1649 Msv1649 R1650=>?_)
         obtain ⟨rfl,rfl⟩:=R1650
         exact Z1<|⟨y1648,h,⟨⟨rfl,rfl,rfl,rfl,rfl,rfl,rfl,rfl,rfl,trivial⟩,(.one .here (.one .here (.one .here (.one .here .nil))))⟩⟩
        ·refine bH h fun z1652 ez1652 h=>bH h fun z1653 ez1653 h=>cH h fun c1654 h=>bH h fun z1655 ez1655 h=>oH h fun y1656 ey1656 h=>Z2<|Z7 rfl<|Z7 rfl<|Z6 _ (iz ez1652 (Za rfl rfl rfl))<|Z6 _ (iz ez1653 (Za rfl rfl rfl))<|Z6 _ (Z3d rfl rfl (Z1t c1654))<|Z7 rfl<|Z7 rfl<|Z6 _ (iz ez1655 (Za rfl rfl rfl))<|Zg (Z4s (mS:=[_]) rfl (Z3z.perm .here) (fun w hw=>Z6l  ey1656 (Za0 hw (mS:=[_]) (Z3z.perm .here)) ) fun v1657 Msv1657 R1658=>?_)
         obtain ⟨rfl,rfl⟩:=R1658
         exact Z1<|⟨y1656,h,⟨⟨rfl,rfl,rfl,rfl,rfl,rfl,rfl,rfl,rfl,trivial⟩,(.one .here (.one .here (.one .here (.one .here .nil))))⟩⟩
       ·rintro t m ⟨a1637,h,hF⟩
        refine Zn hF ?_
        clear hF
        subst qk1638
        refine bH h fun z1660 ez1660 h=>Z2<|Z6 _ (iz ez1660 (Za rfl rfl rfl))<|Z7 rfl<|Z1 ?_
        rw [qk1613] at h
        exact ⟨n1614,Nat.lt_succ_self _,z1660,a1637,h,⟨⟨rfl,rfl,rfl,rfl,rfl,rfl,rfl,rfl,rfl,trivial⟩,(.one .here (.one .here (.one .here (.one .here .nil))))⟩⟩
      ·exact Z0e _ rfl<|⟨a1612,h,⟨⟨rfl,rfl,rfl,rfl,rfl,trivial⟩,(.one .here (.one .here (.one .here (.one .here .nil))))⟩⟩
    ·rintro t m ⟨a1519,h,hF⟩
     refine Zn hF ?_
     clear hF
     subst qk1520
     refine bH h fun z1662 ez1662 h=>Z2<|Z6 _ (iz ez1662 (Za rfl rfl rfl))<|Z7 rfl<|Z1 ?_
     rw [qk1371] at h
     exact ⟨n1372,Nat.lt_succ_self _,z1662,a1519,h,⟨⟨rfl,rfl,rfl,rfl,rfl,trivial⟩,(.one .here (.one .here (.one .here (.one .here .nil))))⟩⟩
   ·exact Z0e _ rfl<|⟨a1370,h,⟨⟨rfl,rfl,trivial⟩,(.one .here (.one .here (.one .here (.one .here .nil))))⟩⟩
 ·rintro t m ⟨a836,h,hF⟩
  refine Zn hF ?_
  clear hF
  subst qk837
  refine Z0<|Z2<|Zg (Zx fun b1664 hb1664=>Z1<|Z0<|Z2<|Z7 rfl<|Z1<|Z0<|Z0<|Z2<|Z6 _ (Z03 (p:=[.ints .u64 10 (a836)]) rfl (.there .here) rfl)<|Z7 rfl<|Z1<|jH h fun k1742 qk1742 h=>Zo (G:=fun t m=>∃ (i1740:Int) (a1741:List Int),k1742 i1740 a1741=some r∧Fit [(4,.pointer (some ⟨b4,0,none⟩)),(10,.pointer (some ⟨b1664,0,none⟩)),(11,.int .u64 (i1740))] (ck b1664 80 [.ints .u64 5 (a1741)]::(ck b9 188 [.ints .u64 10 (a836)]::(ck b4 80 [.ints .u64 5 ((List.replicate 5 0))]::(ck b3 80 [.ints .u64 5 (y7)]::(ck b2 80 [.ints .u64 5 (y6)] :: []))))) t m) ?_ ?_)
  ·refine Zb<|Z01 (fun n1792 t m=>∃ (i1788:Int) (i1789:Int) (a1790:List Int),Z39 a836 k1742 n1792 i1788 i1789 a1790=some r∧Fit [(4,.pointer (some ⟨b4,0,none⟩)),(10,.pointer (some ⟨b1664,0,none⟩)),(11,.int .u64 (i1788)),(55,agg [.ints .u64 10 (a836)]),(56,.int .i64 (i1789))] (ck b1664 80 [.ints .u64 5 (a1790)]::(ck b9 188 [.ints .u64 10 (a836)]::(ck b4 80 [.ints .u64 5 ((List.replicate 5 0))]::(ck b3 80 [.ints .u64 5 (y7)]::(ck b2 80 [.ints .u64 5 (y6)] :: []))))) t m) big ?_ ?_
   ·exact ⟨0,0,(List.replicate 5 0),h,⟨⟨rfl,rfl,rfl,rfl,rfl,trivial⟩,(.one .here (.one .here (.one .here (.one .here (.one .here .nil)))))⟩⟩
   ·rintro n1792 t m ⟨i1788,i1789,a1790,h,hF⟩
    refine Zn hF ?_
    clear hF
    rcases n1792 with _ | n1792
    · exact Z1d h
    have h:Z6v a836 k1742 (Z39 a836 k1742 n1792) i1788 i1789 a1790=some r:=h
    unfold Z6v at h
    obtain ⟨k1791,qk1791⟩ : ∃ k,k=Z39 a836 k1742 n1792:=⟨_,rfl⟩
    try rw [← qk1791] at h
    refine Z0<|Z2<|Z6 _ (Za rfl rfl rfl)<|Z1<|Z0<|Z0s h rfl (fun h=>?_) (fun h=>?_)
    ·refine Zm<|Z0<|Zb<|Z0<|cH h fun c1796 h=>bH h fun l1797 el1797 h=>Z2<|Z7 rfl<|Z6 _ (az (fun z=>agg [.ints .u64 2 z]) el1797 (Zzl (len:=5) (w:=2) rfl rfl (Z1t c1796)))<|Zg (Zx fun b1798 hb1798=>Z7 rfl<|Zg (Zu (q:=[.ints .u64 2 (l1797)]) rfl rfl rfl rfl rfl .here<|Z1<|Z0<|bH h fun z1800 ez1800 h=>cH h fun c1801 h=>bH h fun z1802 ez1802 h=>bH h fun z1803 ez1803 h=>Z2<|Z6 _ (Z64 rfl)<|Z6 _ (iz ez1800 (Z2g rfl .here rfl))<|Z7 rfl<|Z6 _ (Zbs rfl Zcw (Zvu ez1802 ez1803 c1801))<|Z7 rfl<|Z6 _ (Z19 rfl rfl)<|Z6 _ (Z19 rfl rfl)<|Z7 rfl<|Z7 rfl<|Z1<|Z0<|bH h fun z1805 ez1805 h=>cH h fun c1806 h=>bH h fun l1807 el1807 h=>Z2<|Z7 rfl<|Z7 rfl<|Z6 _ (iz ez1805 (Za rfl rfl rfl))<|Z6 _ (Z3d rfl rfl (Z1t c1806))<|Zg (Z5g (q:=[.ints .u64 5 (l1807)]) (base:=0) el1807 rfl rfl rfl (Z0w c1806) rfl (.there .here)<|Z1<|bH h fun z1809 ez1809 h=>bH h fun z1810 ez1810 h=>bH h fun z1811 ez1811 h=>bH h fun z1812 ez1812 h=>bH h fun z1813 ez1813 h=>Z2<|Z6 _ (Z64 rfl)<|Z6 _ (iz ez1809 (Z2g rfl .here rfl))<|Z7 rfl<|Z6 _ (iz ez1810 (Za rfl rfl rfl))<|Z6 _ (iz ez1811 (Zhv rfl rfl (by decide)))<|Z7 rfl<|Z6 _ (iz ez1812 (Z7a rfl rfl (by decide)))<|Z6 _ (iz ez1813 (Za rfl rfl rfl))<|Z7 rfl<|Z1<|bH h fun z1815 ez1815 h=>Z2<|Z6 _ (iz ez1815 (Za rfl rfl rfl))<|Z7 rfl<|Z1 ?_)))
     rw [qk1791] at h
     exact ⟨n1792,Nat.lt_succ_self _,z1813,z1815,l1807,h,⟨⟨rfl,rfl,rfl,rfl,rfl,trivial⟩,(.one (.there .here) (.one (.there .here) (.one (.there .here) (.one (.there .here) (.one (.there .here) .nil)))))⟩⟩
    ·exact Z0e _ rfl<|⟨i1788,a1790,h,⟨⟨rfl,rfl,rfl,trivial⟩,(.one .here (.one .here (.one .here (.one .here (.one .here .nil)))))⟩⟩
  ·rintro t m ⟨i1740,a1741,h,hF⟩
   refine Zn hF ?_
   clear hF
   subst qk1742
   refine Z0<|Z2<|Zg (Zx fun b1817 hb1817=>Z1<|Z0<|oH h fun y1819 ey1819 h=>Z2<|Z7 rfl<|Zg (Z4s (mS:=[_]) rfl (Z3z.perm .here) (fun w hw=>Z6l  ey1819 (Za0 hw (mS:=[_]) (Z3z.perm .here)) ) fun v1820 Msv1820 R1821=>?_))
   obtain ⟨rfl,rfl⟩:=R1821
   refine Z1<|Z0<|bH h fun z1823 ez1823 h=>bH h fun z1824 ez1824 h=>cH h fun c1825 h=>bH h fun z1826 ez1826 h=>bH h fun z1827 ez1827 h=>Z2<|Z6 _ (Z64 rfl)<|Z6 _ (iz ez1823 (Z2g rfl .here rfl))<|Z6 _ (Z3d rfl rfl (by decide))<|Z6 _ (iz ez1824 (Z2g rfl (.there .here) rfl))<|Z6 _ (Zbs rfl Zcw (Zvu ez1826 ez1827 c1825))<|Z7 rfl<|Z6 _ (Z19 rfl rfl)<|Z6 _ (Z19 rfl rfl)<|Z7 rfl<|Z7 rfl<|Z1<|Z0<|bH h fun z1829 ez1829 h=>bH h fun l1830 el1830 h=>Z2<|Z7 rfl<|Z6 _ (iz ez1829 (Za rfl rfl rfl))<|Z6 _ (Z3d rfl rfl (by decide))<|Zg (Z98 (q:=[.ints .u64 5 (l1830)]) (congrArg (fun z=>([.ints .u64 5 (z)]:List Seg)) el1830.symm) rfl rfl rfl rfl (.there .here)<|Z1<|Z0<|bH h fun z1832 ez1832 h=>bH h fun z1833 ez1833 h=>bH h fun z1834 ez1834 h=>bH h fun z1835 ez1835 h=>bH h fun z1836 ez1836 h=>bH h fun z1837 ez1837 h=>bH h fun z1838 ez1838 h=>bH h fun l1839 el1839 h=>Z2<|Z6 _ (Z3d rfl rfl (by decide))<|Z6 _ (iz ez1832 (Z2g rfl (.there .here) rfl))<|Z6 _ (Z64 rfl)<|Z6 _ (iz ez1833 (Z2g rfl .here rfl))<|Z7 rfl<|Z6 _ (iz ez1834 (Za rfl rfl rfl))<|Z6 _ (iz ez1835 (Zhv rfl rfl (by decide)))<|Z7 rfl<|Z6 _ (iz ez1836 (Z7a rfl rfl (by decide)))<|Z6 _ (iz ez1837 (Za rfl rfl rfl))<|Z6 _ (iz ez1838 (Za rfl rfl rfl))<|Z6 _ (Z3d rfl rfl (by decide))<|Zg (Z98 (q:=[.ints .u64 5 (l1839)]) (congrArg (fun z=>([.ints .u64 5 (z)]:List Seg)) el1839.symm) rfl rfl rfl rfl (.there .here)<|Z1<|Z0<|oH h fun y1841 ey1841 h=>Z2<|Z6 _ (Z03 (p:=[.ints .u64 5 (l1839)]) rfl (.there .here) rfl)<|Z6 _ (Z1a rfl (Z0f ey1841))<|Zg (Zu (q:=[.ints .u64 5 (y1841)]) rfl rfl rfl rfl rfl (.there (.there (.there .here)))<|Z1<|Zk ?_)))
   revert h; refine Zy fun h=>?_
   subst h
   exact ⟨_,(.cons (.agg rfl (.there (.there (.there .here))) rfl) .nil),rfl⟩
def Z0x (p0:List Int):OL :=
 opt (Z09 p0 p0) fun y5 =>
 some y5
theorem Z1i {W:World} {r:(List Int)} {p0:List Int} (h:Z0x p0=some r)  :
    Calls Tryz.prog 123 [agg [.ints .u64 5 (p0)]].toArray W (Z51 W (agg [.ints .u64 5 (r)])):=by
 unfold Z0x at h
 refine Zd mo Z0d5 rfl ?_
 refine Z0<|Z2<|Zg (Z16 (s:=[.ints .u64 5 (p0)]) rfl fun b2 hb2=>Zg (Zx fun b3 hb3=>Z1<|Z0<|oH h fun y5 ey5 h=>Z2<|Z6 _ (Z03 (p:=[.ints .u64 5 (p0)]) rfl (.there .here) rfl)<|Z6 _ (Z03 (p:=[.ints .u64 5 (p0)]) rfl (.there .here) rfl)<|Z6 _ (Z1a rfl (Zw ey5))<|Zg (Zu (q:=[.ints .u64 5 (y5)]) rfl rfl rfl rfl rfl .here<|Z1<|Zk ?_)))
 revert h; refine Zy fun h=>?_
 subst h
 exact ⟨_,(.cons (.agg rfl .here rfl) .nil),rfl⟩
def Z7w (p0:Int):OL :=
 bnd (([p0,0,0,0,0]:List Int)) fun z4 =>
 opt (Z0y z4) fun y5 =>
 some y5
theorem Zb3 {W:World} {r:(List Int)} {p0:Int} (h:Z7w p0=some r)  :
    Calls Tryz.prog 188 [.int .u64 (p0)].toArray W (Z51 W (agg [.ints .u64 5 (r)])):=by
 unfold Z7w at h
 refine Zd mo Z0e6 rfl ?_
 refine Z0<|Z2<|Zg (Zx fun b2 hb2=>Z1<|Z0<|bH h fun z4 ez4 h=>oH h fun y5 ey5 h=>Z2<|Z7 rfl<|Z6 _ (az (fun z=>agg [.ints .u64 5 z]) ez4 (Zdv (.one rfl rfl rfl BdR.nil)))<|Z6 _ (Z1a rfl (Z0f ey5))<|Zg (Zu (q:=[.ints .u64 5 (y5)]) rfl rfl rfl rfl rfl .here<|Z1<|Zk ?_))
 revert h; refine Zy fun h=>?_
 subst h
 exact ⟨_,(.cons (.agg rfl .here rfl) .nil),rfl⟩
def Z6x (p0:List Int) (p1:List Int) (k102:(List Int)→OL) (k161:(Int)→(List Int)→OL) (i159:Int) (a160:List Int):OL :=
 br ((decide (i159≥0))) (
 jn (fun (a178:List Int)=>bnd (IntKind.wrap .i64 (i159-1)) fun z194 =>
 k161 z194 a178) fun k179=>opt (Z0x a160) fun y181 =>
 bnd (IntKind.wrap .i64 (Int.tdiv i159 8)) fun z183 =>
 chk (inB z183 32) <|
 bnd (p1.getD (z183).toNat 0) fun z185 =>
 bnd (Int.tmod i159 8) fun z186 =>
 chk (decide (0≤z186)) <|
 bnd (Zi .u8 z185 z186) fun z188 =>
 bnd (Z4 .and .u8 z188 1) fun z189 =>
 br ((z189==1)) (
 opt (Z09 y181 p0) fun y192 =>
 k179 y192
 ) (
 k179 y181
 )
 ) (
 k102 a160
 )
def Z3w (p0:List Int) (p1:List Int) (k102:(List Int)→OL):Nat→(Int)→(List Int)→OL
  | 0,_,_=>none
  | n+1,i159,a160=>Z6x p0 p1 k102 (Z3w p0 p1 k102 n) i159 a160
def Z8g (p0:List Int) (p1:List Int):OL :=
 opt (Z7w 1) fun y6 =>
 jn (fun (a101:List Int)=>some a101) fun k102=>Z3w p0 p1 k102 big 255 y6
theorem Z9v {W:World} {r:(List Int)} {p0:List Int} {p1:List Int} (h:Z8g p0 p1=some r)  :
    Calls Tryz.prog 153 [agg [.ints .u64 5 (p0)],agg [.ints .u8 32 (p1)]].toArray W (Z51 W (agg [.ints .u64 5 (r)])):=by
 unfold Z8g at h
 refine Zd mo Z0do rfl ?_
 refine Z0<|Z2<|Zg (Z16 (s:=[.ints .u64 5 (p0)]) rfl fun b2 hb2=>Zg (Z16 (s:=[.ints .u8 32 (p1)]) rfl fun b3 hb3=>Zg (Zx fun b4 hb4=>Z1<|Z0<|oH h fun y6 ey6 h=>Z2<|Z6 _ (Z1a rfl (Zb3 ey6))<|Zg (Zx fun b7 hb7=>Zg (Zu (q:=[.ints .u64 5 (y6)]) rfl rfl rfl rfl rfl .here<|Z1<|Z0<|Z0<|Z2<|Z7 rfl<|Z1<|jH h fun k102 qk102 h=>Zo (G:=fun t m=>∃ (a101:List Int),k102 a101=some r∧Fit [(4,.pointer (some ⟨b4,0,none⟩)),(5,.pointer (some ⟨b7,0,none⟩))] (ck b7 80 [.ints .u64 5 (a101)]::(ck b4 80 [.ints .u64 5 ((List.replicate 5 0))]::(ck b3 22 [.ints .u8 32 (p1)]::(ck b2 80 [.ints .u64 5 (p0)] :: [])))) t m) ?_ ?_)))))
 ·refine Zb<|Z01 (fun n162 t m=>∃ (i159:Int) (a160:List Int),Z3w p0 p1 k102 n162 i159 a160=some r∧Fit [(2,.pointer (some ⟨b2,0,none⟩)),(3,.pointer (some ⟨b3,0,none⟩)),(4,.pointer (some ⟨b4,0,none⟩)),(5,.pointer (some ⟨b7,0,none⟩)),(6,.int .i64 (i159))] (ck b7 80 [.ints .u64 5 (a160)]::(ck b4 80 [.ints .u64 5 ((List.replicate 5 0))]::(ck b3 22 [.ints .u8 32 (p1)]::(ck b2 80 [.ints .u64 5 (p0)] :: [])))) t m) big ?_ ?_
  ·exact ⟨255,y6,h,⟨⟨rfl,rfl,rfl,rfl,rfl,trivial⟩,(.one .here (.one .here (.one .here (.one .here .nil))))⟩⟩
  ·rintro n162 t m ⟨i159,a160,h,hF⟩
   refine Zn hF ?_
   clear hF
   rcases n162 with _ | n162
   · exact Z1d h
   have h:Z6x p0 p1 k102 (Z3w p0 p1 k102 n162) i159 a160=some r:=h
   unfold Z6x at h
   obtain ⟨k161,qk161⟩ : ∃ k,k=Z3w p0 p1 k102 n162:=⟨_,rfl⟩
   try rw [← qk161] at h
   refine Z0<|Z0<|Z2<|Z7 rfl<|Z6 _ (Za rfl rfl rfl)<|Z1<|Z0s h rfl (fun h=>?_) (fun h=>?_)
   ·refine Zm<|Z0<|jH h fun k179 qk179 h=>Zo (G:=fun t m=>∃ (a178:List Int),k179 a178=some r∧Fit [(2,.pointer (some ⟨b2,0,none⟩)),(3,.pointer (some ⟨b3,0,none⟩)),(4,.pointer (some ⟨b4,0,none⟩)),(5,.pointer (some ⟨b7,0,none⟩)),(6,.int .i64 (i159))] (ck b7 80 [.ints .u64 5 (a178)]::(ck b4 80 [.ints .u64 5 ((List.replicate 5 0))]::(ck b3 22 [.ints .u8 32 (p1)]::(ck b2 80 [.ints .u64 5 (p0)] :: [])))) t m) ?_ ?_
    ·refine Zb<|Z0<|oH h fun y181 ey181 h=>Z2<|Z6 _ (Z03 (p:=[.ints .u64 5 (a160)]) rfl .here rfl)<|Z6 _ (Z1a rfl (Z1i ey181))<|Zg (Zu (q:=[.ints .u64 5 (y181)]) rfl rfl rfl rfl rfl .here<|Z1<|Z0<|bH h fun z183 ez183 h=>cH h fun c184 h=>bH h fun z185 ez185 h=>bH h fun z186 ez186 h=>cH h fun c187 h=>bH h fun z188 ez188 h=>bH h fun z189 ez189 h=>Z2<|Z7 rfl<|Z6 _ (iz ez183 (Ziv rfl rfl (by decide)))<|Z6 _ (Z3d rfl rfl (Z1t c184))<|Z6 _ (iz ez185 (Z8r (base:=0) rfl (.there (.there .here)) rfl (Z0w c184)))<|Z7 rfl<|Z6 _ (iz ez186 (Ziw rfl rfl (by decide)))<|Z6 _ (iz ez188 (Z7a rfl rfl (of_decide_eq_true c187)))<|Z6 _ (iz ez189 (Za rfl rfl rfl))<|Z6 _ (Za rfl rfl rfl)<|Z1<|Z0s h rfl (fun h=>?_) (fun h=>?_))
     ·exact oH h fun y192 ey192 h=>Z2<|Z6 _ (Z03 (p:=[.ints .u64 5 (y181)]) rfl .here rfl)<|Z6 _ (Z03 (p:=[.ints .u64 5 (p0)]) rfl (.there (.there (.there .here))) rfl)<|Z6 _ (Z1a rfl (Zw ey192))<|Zg (Zu (q:=[.ints .u64 5 (y192)]) rfl rfl rfl rfl rfl .here<|Z1<|⟨y192,h,⟨⟨rfl,rfl,rfl,rfl,rfl,trivial⟩,(.one .here (.one .here (.one .here (.one .here .nil))))⟩⟩)
     ·exact Zm<|⟨y181,h,⟨⟨rfl,rfl,rfl,rfl,rfl,trivial⟩,(.one .here (.one .here (.one .here (.one .here .nil))))⟩⟩
    ·rintro t m ⟨a178,h,hF⟩
     refine Zn hF ?_
     clear hF
     subst qk179
     refine bH h fun z194 ez194 h=>Z2<|Z7 rfl<|Z6 _ (iz ez194 (Za rfl rfl rfl))<|Z7 rfl<|Z1 ?_
     rw [qk161] at h
     exact ⟨n162,Nat.lt_succ_self _,z194,a178,h,⟨⟨rfl,rfl,rfl,rfl,rfl,trivial⟩,(.one .here (.one .here (.one .here (.one .here .nil))))⟩⟩
   ·exact Z0e _ rfl<|⟨a160,h,⟨⟨rfl,rfl,trivial⟩,(.one .here (.one .here (.one .here (.one .here .nil))))⟩⟩
 ·rintro t m ⟨a101,h,hF⟩
  refine Zn hF ?_
  clear hF
  subst qk102
  refine Z0<|Z2<|Z6 _ (Z03 (p:=[.ints .u64 5 (a101)]) rfl .here rfl)<|Zg (Zu (q:=[.ints .u64 5 (a101)]) rfl rfl rfl rfl rfl (.there .here)<|Z1<|Zk ?_)
  revert h; refine Zy fun h=>?_
  subst h
  exact ⟨_,(.cons (.agg rfl (.there .here) rfl) .nil),rfl⟩
def Z9w (k34:(List Int)→OL) (k52:(Int)→(List Int)→OL) (i50:Int) (a51:List Int):OL :=
 br ((decide (i50<32))) (
 chk (inB i50 32) <|
 bnd (Z4q a51 (i50).toNat 255) fun l59 =>
 bnd (IntKind.wrap .i64 (i50+1)) fun z61 =>
 k52 z61 l59
 ) (
 k34 a51
 )
def Z6a (k34:(List Int)→OL):Nat→(Int)→(List Int)→OL
  | 0,_,_=>none
  | n+1,i50,a51=>Z9w k34 (Z6a k34 n) i50 a51
def Z5j (p0:Int) (p1:Int):OL :=
 jn (fun (a33:List Int)=>bnd (Z4q a33 0 p0) fun l63 =>
 bnd (Z4q l63 31 p1) fun l64 =>
 some l64) fun k34=>Z6a k34 big 0 (List.replicate 32 0)
theorem Z8q {W:World} {r:(List Int)} {p0:Int} {p1:Int} (h:Z5j p0 p1=some r)  :
    Calls Tryz.prog 154 [.int .u8 (p0),.int .u8 (p1)].toArray W (Z51 W (agg [.ints .u8 32 (r)])):=by
 unfold Z5j at h
 refine Zd mo Z0dp rfl ?_
 refine Z0<|Z2<|Zg (Zx fun b2 hb2=>Z1<|Z0<|Z2<|Zg (Zx fun b4 hb4=>Z1<|Z0<|Z0<|Z2<|Z7 rfl<|Z1<|jH h fun k34 qk34 h=>Zo (G:=fun t m=>∃ (a33:List Int),k34 a33=some r∧Fit [(0,.int .u8 (p0)),(1,.int .u8 (p1)),(4,.pointer (some ⟨b2,0,none⟩)),(5,.pointer (some ⟨b4,0,none⟩))] (ck b4 22 [.ints .u8 32 (a33)]::(ck b2 22 [.ints .u8 32 ((List.replicate 32 0))] :: [])) t m) ?_ ?_))
 ·refine Zb<|Z01 (fun n53 t m=>∃ (i50:Int) (a51:List Int),Z6a k34 n53 i50 a51=some r∧Fit [(0,.int .u8 (p0)),(1,.int .u8 (p1)),(4,.pointer (some ⟨b2,0,none⟩)),(5,.pointer (some ⟨b4,0,none⟩)),(7,.int .i64 (i50))] (ck b4 22 [.ints .u8 32 (a51)]::(ck b2 22 [.ints .u8 32 ((List.replicate 32 0))] :: [])) t m) big ?_ ?_
  ·exact ⟨0,(List.replicate 32 0),h,⟨⟨rfl,rfl,rfl,rfl,rfl,trivial⟩,(.one .here (.one .here .nil))⟩⟩
  ·rintro n53 t m ⟨i50,a51,h,hF⟩
   refine Zn hF ?_
   clear hF
   rcases n53 with _ | n53
   · exact Z1d h
   have h:Z9w k34 (Z6a k34 n53) i50 a51=some r:=h
   unfold Z9w at h
   obtain ⟨k52,qk52⟩ : ∃ k,k=Z6a k34 n53:=⟨_,rfl⟩
   try rw [← qk52] at h
   refine Z0<|Z2<|Z6 _ (Za rfl rfl rfl)<|Z1<|Z0<|Z0s h rfl (fun h=>?_) (fun h=>?_)
   ·refine Zm<|Z0<|Zb<|Z0<|Z2<|Z7 rfl<|Z7 rfl<|Z1<|cH h fun c58 h=>bH h fun l59 el59 h=>Z2<|Z7 rfl<|Z6 _ (Z3d rfl rfl (Z1t c58))<|Zg (Z5g (q:=[.ints .u8 32 (l59)]) (base:=0) el59 rfl rfl rfl (Z0w c58) rfl .here<|Z1<|bH h fun z61 ez61 h=>Z2<|Z6 _ (iz ez61 (Za rfl rfl rfl))<|Z7 rfl<|Z1 ?_)
    rw [qk52] at h
    exact ⟨n53,Nat.lt_succ_self _,z61,l59,h,⟨⟨rfl,rfl,rfl,rfl,rfl,trivial⟩,(.one .here (.one .here .nil))⟩⟩
   ·exact Z0e _ rfl<|⟨a51,h,⟨⟨rfl,rfl,rfl,rfl,trivial⟩,(.one .here (.one .here .nil))⟩⟩
 ·rintro t m ⟨a33,h,hF⟩
  refine Zn hF ?_
  clear hF
  subst qk34
  refine Z0<|bH h fun l63 el63 h=>bH h fun l64 el64 h=>Z2<|Z7 rfl<|Z7 rfl<|Z6 _ (Z3d rfl rfl (by decide))<|Zg (Z98 (q:=[.ints .u8 32 (l63)]) (congrArg (fun z=>([.ints .u8 32 (z)]:List Seg)) el63.symm) rfl rfl rfl rfl .here<|Z6 _ (Z3d rfl rfl (by decide))<|Zg (Z98 (q:=[.ints .u8 32 (l64)]) (congrArg (fun z=>([.ints .u8 32 (z)]:List Seg)) el64.symm) rfl rfl rfl rfl .here<|Z1<|Z0<|Z2<|Z6 _ (Z03 (p:=[.ints .u8 32 (l64)]) rfl .here rfl)<|Zg (Zu (q:=[.ints .u8 32 (l64)]) rfl rfl rfl rfl rfl (.there .here)<|Z1<|Zk ?_)))
  revert h; refine Zy fun h=>?_
  subst h
  exact ⟨_,(.cons (.agg rfl (.there .here) rfl) .nil),rfl⟩
def Z6u (p0:List Int):OL :=
 opt (Z5j 235 127) fun y5 =>
 opt (Z8g p0 y5) fun y6 =>
 some y6
theorem Ze3 {W:World} {r:(List Int)} {p0:List Int} (h:Z6u p0=some r)  :
    Calls Tryz.prog 90 [agg [.ints .u64 5 (p0)]].toArray W (Z51 W (agg [.ints .u64 5 (r)])):=by
 unfold Z6u at h
 refine Zd mo ok90 rfl ?_
 refine Z0<|Z2<|Zg (Z16 (s:=[.ints .u64 5 (p0)]) rfl fun b2 hb2=>Zg (Zx fun b3 hb3=>Z1<|Z0<|oH h fun y5 ey5 h=>oH h fun y6 ey6 h=>Zv<|Z8 _ (Z1a rfl (Z8q ey5))<|Zp _ (Z03 (p:=[.ints .u64 5 (p0)]) rfl (.there .here) rfl)<|Z8 _ (Z1a rfl (Z9v ey6))<|Z2j rfl (Zu (q:=[.ints .u64 5 (y6)]) rfl rfl rfl rfl rfl .here<|Z05<|Zk ?_)))
 revert h; refine Zy fun h=>?_
 subst h
 exact ⟨_,(.cons (.agg rfl .here rfl) .nil),rfl⟩
def Z9u (y5:(List Int)) (k107:(List Int)→OL) (k163:(Int)→(List Int)→OL) (i161:Int) (a162:List Int):OL :=
 br ((decide (i161<32))) (
 bnd (IntKind.wrap .i64 (8*i161)) fun z169 =>
 bnd (IntKind.wrap .i64 (Int.tdiv z169 51)) fun z170 =>
 bnd (IntKind.wrap .i64 (8*i161)) fun z171 =>
 bnd (Int.tmod z171 51) fun z172 =>
 chk (inB z170 5) <|
 bnd (y5.getD (z170).toNat 0) fun z175 =>
 chk (decide (0≤z172)) <|
 bnd (Zi .u64 z175 z172) fun z177 =>
 jn (fun (i188:Int)=>bnd (IntKind.wrap .u8 i188) fun z200 =>
 chk (inB i161 32) <|
 bnd (Z4q a162 (i161).toNat z200) fun l202 =>
 bnd (IntKind.wrap .i64 (i161+1)) fun z204 =>
 k163 z204 l202) fun k189=>br (((decide (z172>43))&&(decide (z170<4)))) (
 bnd (IntKind.wrap .i64 (z170+1)) fun z192 =>
 chk (inB z192 5) <|
 bnd (y5.getD (z192).toNat 0) fun z194 =>
 bnd (IntKind.wrap .i64 (51-z172)) fun z195 =>
 chk (decide (0≤z195)) <|
 bnd (Zq .u64 z194 z195) fun z197 =>
 bnd (Z4 .or .u64 z177 z197) fun z198 =>
 k189 z198
 ) (
 k189 z177
 )
 ) (
 k107 a162
 )
def Z4z (y5:(List Int)) (k107:(List Int)→OL):Nat→(Int)→(List Int)→OL
  | 0,_,_=>none
  | n+1,i161,a162=>Z9u y5 k107 (Z4z y5 k107 n) i161 a162
def Z7u (p0:List Int):OL :=
 opt (Z0y p0) fun y5 =>
 jn (fun (a106:List Int)=>some a106) fun k107=>Z4z y5 k107 big 0 (List.replicate 32 0)
theorem Zb0 {W:World} {r:(List Int)} {p0:List Int} (h:Z7u p0=some r)  :
    Calls Tryz.prog 91 [agg [.ints .u64 5 (p0)]].toArray W (Z51 W (agg [.ints .u8 32 (r)])):=by
 unfold Z7u at h
 refine Zd mo ok91 rfl ?_
 refine Z0<|Z2<|Zg (Z16 (s:=[.ints .u64 5 (p0)]) rfl fun b2 hb2=>Zg (Zx fun b3 hb3=>Z1<|Z0<|oH h fun y5 ey5 h=>Z2<|Z6 _ (Z03 (p:=[.ints .u64 5 (p0)]) rfl (.there .here) rfl)<|Z6 _ (Z1a rfl (Z0f ey5))<|Zg (Zu (q:=[.ints .u64 5 (y5)]) rfl rfl rfl rfl rfl (.there .here)<|Z1<|Z0<|Z2<|Zg (Zx fun b7 hb7=>Z1<|Z0<|Z0<|Z2<|Z7 rfl<|Z1<|jH h fun k107 qk107 h=>Zo (G:=fun t m=>∃ (a106:List Int),k107 a106=some r∧Fit [(2,.pointer (some ⟨b3,0,none⟩)),(3,.pointer (some ⟨b7,0,none⟩))] (ck b7 22 [.ints .u8 32 (a106)]::(ck b3 22 [.ints .u8 32 ((List.replicate 32 0))]::(ck b2 80 [.ints .u64 5 (y5)] :: []))) t m) ?_ ?_))))
 ·refine Zb<|Z01 (fun n164 t m=>∃ (i161:Int) (a162:List Int),Z4z y5 k107 n164 i161 a162=some r∧Fit [(1,.pointer (some ⟨b2,0,none⟩)),(2,.pointer (some ⟨b3,0,none⟩)),(3,.pointer (some ⟨b7,0,none⟩)),(10,.int .i64 (i161))] (ck b7 22 [.ints .u8 32 (a162)]::(ck b3 22 [.ints .u8 32 ((List.replicate 32 0))]::(ck b2 80 [.ints .u64 5 (y5)] :: []))) t m) big ?_ ?_
  ·exact ⟨0,(List.replicate 32 0),h,⟨⟨rfl,rfl,rfl,rfl,trivial⟩,(.one .here (.one .here (.one .here .nil)))⟩⟩
  ·rintro n164 t m ⟨i161,a162,h,hF⟩
   refine Zn hF ?_
   clear hF
   rcases n164 with _ | n164
   · exact Z1d h
   have h:Z9u y5 k107 (Z4z y5 k107 n164) i161 a162=some r:=h
   unfold Z9u at h
   obtain ⟨k163,qk163⟩ : ∃ k,k=Z4z y5 k107 n164:=⟨_,rfl⟩
   try rw [← qk163] at h
   refine Z0<|Z2<|Z6 _ (Za rfl rfl rfl)<|Z1<|Z0<|Z0s h rfl (fun h=>?_) (fun h=>?_)
   ·refine Zm<|Z0<|Zb<|Z0<|Z2<|Z7 rfl<|Z7 rfl<|Z1<|Z0<|bH h fun z169 ez169 h=>bH h fun z170 ez170 h=>bH h fun z171 ez171 h=>bH h fun z172 ez172 h=>Z2<|Z7 rfl<|Z6 _ (iz ez169 (Za rfl rfl rfl))<|Z6 _ (iz ez170 (Ziv rfl rfl (by decide)))<|Z7 rfl<|Z6 _ (iz ez171 (Za rfl rfl rfl))<|Z6 _ (iz ez172 (Ziw rfl rfl (by decide)))<|Z7 rfl<|Z7 rfl<|Z1<|Z0<|cH h fun c174 h=>bH h fun z175 ez175 h=>cH h fun c176 h=>bH h fun z177 ez177 h=>Z2<|Z7 rfl<|Z6 _ (Z3d rfl rfl (Z1t c174))<|Z6 _ (iz ez175 (Z8r (base:=0) rfl (.there (.there .here)) rfl (Z0w c174)))<|Z7 rfl<|Z6 _ (iz ez177 (Z7a rfl rfl (of_decide_eq_true c176)))<|Z7 rfl<|Z1<|Z0<|Z0<|Z2<|Z7 rfl<|Z6 _ (Za rfl rfl rfl)<|Z7 rfl<|Z7o rfl rfl rfl (fun hg1=>Z2s rfl _ (Z15 rfl) (Z2s rfl _ (Za rfl rfl rfl) (Z1u))) (fun hg1=>rfl) rfl<|Z1<|jH h fun k189 qk189 h=>Zo (G:=fun t m=>∃ (i188:Int),k189 i188=some r∧Fit [(1,.pointer (some ⟨b2,0,none⟩)),(2,.pointer (some ⟨b3,0,none⟩)),(3,.pointer (some ⟨b7,0,none⟩)),(4,.int .i64 (i161)),(7,.int .u64 (i188)),(10,.int .i64 (i161))] (ck b7 22 [.ints .u8 32 (a162)]::(ck b3 22 [.ints .u8 32 ((List.replicate 32 0))]::(ck b2 80 [.ints .u64 5 (y5)] :: []))) t m) ?_ ?_
    ·refine Z0s h rfl (fun h=>?_) (fun h=>?_)
     ·exact bH h fun z192 ez192 h=>cH h fun c193 h=>bH h fun z194 ez194 h=>bH h fun z195 ez195 h=>cH h fun c196 h=>bH h fun z197 ez197 h=>bH h fun z198 ez198 h=>Z2<|Z7 rfl<|Z7 rfl<|Z6 _ (iz ez192 (Za rfl rfl rfl))<|Z6 _ (Z3d rfl rfl (Z1t c193))<|Z6 _ (iz ez194 (Z8r (base:=0) rfl (.there (.there .here)) rfl (Z0w c193)))<|Z7 rfl<|Z6 _ (iz ez195 (Za rfl rfl rfl))<|Z6 _ (iz ez197 (Zhv rfl rfl (of_decide_eq_true c196)))<|Z6 _ (iz ez198 (Za rfl rfl rfl))<|Z7 rfl<|Z1<|⟨z198,h,⟨⟨rfl,rfl,rfl,rfl,rfl,rfl,trivial⟩,(.one .here (.one .here (.one .here .nil)))⟩⟩
     ·exact Zm<|⟨z177,h,⟨⟨rfl,rfl,rfl,rfl,rfl,rfl,trivial⟩,(.one .here (.one .here (.one .here .nil)))⟩⟩
    ·rintro t m ⟨i188,h,hF⟩
     refine Zn hF ?_
     clear hF
     subst qk189
     refine bH h fun z200 ez200 h=>cH h fun c201 h=>bH h fun l202 el202 h=>Z2<|Z7 rfl<|Z7 rfl<|Z6 _ (iz ez200 (Z8l rfl))<|Z6 _ (Z3d rfl rfl (Z1t c201))<|Zg (Z5g (q:=[.ints .u8 32 (l202)]) (base:=0) el202 rfl rfl rfl (Z0w c201) rfl .here<|Z1<|bH h fun z204 ez204 h=>Z2<|Z6 _ (iz ez204 (Za rfl rfl rfl))<|Z7 rfl<|Z1 ?_)
     rw [qk163] at h
     exact ⟨n164,Nat.lt_succ_self _,z204,l202,h,⟨⟨rfl,rfl,rfl,rfl,trivial⟩,(.one .here (.one .here (.one .here .nil)))⟩⟩
   ·exact Z0e _ rfl<|⟨a162,h,⟨⟨rfl,rfl,trivial⟩,(.one .here (.one .here (.one .here .nil)))⟩⟩
 ·rintro t m ⟨a106,h,hF⟩
  refine Zn hF ?_
  clear hF
  subst qk107
  refine Z0<|Z2<|Z6 _ (Z03 (p:=[.ints .u8 32 (a106)]) rfl .here rfl)<|Zg (Zu (q:=[.ints .u8 32 (a106)]) rfl rfl rfl rfl rfl (.there .here)<|Z1<|Zk ?_)
  revert h; refine Zy fun h=>?_
  subst h
  exact ⟨_,(.cons (.agg rfl (.there .here) rfl) .nil),rfl⟩
end Go.Proofs.YtiflckckekjbnaaGreatDoor
