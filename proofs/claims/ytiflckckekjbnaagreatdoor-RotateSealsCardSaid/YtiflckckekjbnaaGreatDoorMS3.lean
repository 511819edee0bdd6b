/- Texts of a proof, one behind the other: S1 L1. -/
import Derived.Test.YtiflckckekjbnaaGreatDoorMS2
import Derived.Test.YtiflckckekjbnaaGreatDoorProg
namespace Go.Proofs.YtiflckckekjbnaaGreatDoor
open Go Go.Sx Go.RowKit
set_option linter.all false
set_option maxHeartbeats 400000
set_option maxRecDepth 100000
def Z16m:List J:=[oj 0 (.mv (.const (.pointer none)))]
def Z16n:List J:=[oj 1 (.ld 8 true (.global 2)),oj 2 (.bd [.ints .u64 8 (List.replicate 8 0),.ints .u8 128 (List.replicate 128 0),.one (.int .i64 0),.one (.int .u64 0)] [(0,8,1)]),oj 3 (.bx 194 2),oj 0 (.mv 3)]
def d96:FnD:=⟨4,[.tmp 0],(.seq (.ops Z16m) (.seq (.ops Z16n) .ret))⟩
theorem ok96:okF Tryz.prog 96 d96=true:=by kernel_rfl
def Z0p8:List J:=[oj 0 (.mv (ci 0))]
def Z0p9:List J:=[oj 1 (.mv (ci 0))]
def Z0pa:List J:=[oj 3 (.conv .u64 (ci 0)),oj 4 (.un .xor 3),oj 2 (.mv 4)]
def Z0pb:List J:=[oj 5 (.mv 2),oj 6 (.bin .neq 5 (cu 0))]
def Z0pd:List J:=[oj 9 (.mv 1),oj 10 (.bin .add 9 (ci 1)),oj 1 (.mv 10)]
def Z098:IC:=(.ops Z0pd)
def Z0pc:List J:=[oj 7 (.mv 2),oj 8 (.bin .shr 7 (cu 1)),oj 2 (.mv 8)]
def Z0b7:IC:=(.seq (.seq (.ops Z0pb) (.cond 6 .skip (.exit 0))) (.seq (.block 1 Z098) (.ops Z0pc)))
def Z097:IC:=(.loop Z0b7)
def Z0pe:List J:=[oj 11 (.mv 1),oj 0 (.mv 11)]
def d183:FnD:=⟨12,[.tmp 0],(.seq (.ops Z0p8) (.seq (.ops Z0p9) (.seq (.seq (.ops Z0pa) (.block 0 Z097)) (.seq (.ops Z0pe) .ret))))⟩
theorem Z0zl:okF Tryz.prog 183 d183=true:=by kernel_rfl
def Z0r9:List J:=[oj 4 (.mv (.const (.slice none 0 0)))]
def Z0ra:List J:=[oj 6 (.call 183 []),oj 7 (.bin .quo 6 (ci 8)),oj 5 (.mv 7)]
def Z0rb:List J:=[oj 8 (.mv 1),oj 9 (.bin .lss 8 (ci 0)),oj 10 (.mv 9),.lg true 10 17 none [.op ⟨some 11,(some (10,false)),.mv 1⟩,.op ⟨some 12,(some (10,false)),.mv 0⟩,.op ⟨some 13,(some (10,false)),.len 12⟩,.op ⟨some 14,(some (10,false)),.mv 5⟩,.op ⟨some 15,(some (10,false)),.bin .sub 13 14⟩,.op ⟨some 16,(some (10,false)),.bin .gtr 11 15⟩] 16]
def Z0rc:List J:=[oj 4 (.mv (.const (.slice none 0 0)))]
def Z0rd:List J:=[oj 18 (.mv 0),oj 19 (.mv 1),oj 20 (.mv 1),oj 21 (.mv 5),oj 22 (.bin .add 20 21),oj 23 (.sls 1 18 (some 19) (some 22) none),oj 4 (.mv 23)]
def d203:FnD:=⟨24,[.tmp 4],(.seq (.ops Z0r9) (.seq (.ops Z0ra) (.seq (.seq (.ops Z0rb) (.cond 17 (.seq (.ops Z0rc) .ret) .skip)) (.seq (.ops Z0rd) .ret))))⟩
theorem Z0zz:okF Tryz.prog 203 d203=true:=by kernel_rfl
def Z0su:List J:=[oj 4 (.mv (cu 0)),oj 5 (.mv (.const (.bool false)))]
def Z0sv:List J:=[oj 6 (.mv (cu 0))]
def Z0sw:List J:=[oj 10 (.mv 0),oj 11 (.mv 1),oj 12 (.call 203 [10,11]),oj 7 (.mv 12)]
def Z0sx:List J:=[oj 13 (.mv 7),oj 14 (.len 13),oj 15 (.mv (ci 0))]
def Z0sy:List J:=[oj 16 (.bin .lss 15 14)]
def Z0sz:List J:=[oj 17 (.ias 1 13 15),oj 18 (.ld 1 false 17),oj 9 (.mv 18)]
def Z0t0:List J:=[oj 19 (.mv 6),oj 20 (.bin .shl 19 (cu 8)),oj 21 (.mv 9),oj 22 (.conv .u64 21),oj 23 (.bin .or 20 22),oj 6 (.mv 23)]
def Z09s:IC:=(.seq (.ops Z0sz) (.ops Z0t0))
def Z0t1:List J:=[oj 24 (.bin .add 15 (ci 1)),oj 15 (.mv 24)]
def Z0bh:IC:=(.seq (.ops Z0sy) (.seq (.cond 16 .skip (.exit 0)) (.seq (.block 1 Z09s) (.ops Z0t1))))
def Z09r:IC:=(.loop Z0bh)
def Z0t2:List J:=[oj 25 (.mv 6),oj 26 (.mv 7),oj 27 (.isn true 26),oj 4 (.mv 25),oj 5 (.mv 27)]
def d218:FnD:=⟨28,[.tmp 4,.tmp 5],(.seq (.ops Z0su) (.seq (.ops Z0sv) (.seq (.ops Z0sw) (.seq (.seq (.ops Z0sx) (.block 0 Z09r)) (.seq (.ops Z0t2) .ret)))))⟩
theorem Z10a:okF Tryz.prog 218 d218=true:=by kernel_rfl
def Z0t5:List J:=[oj 4 (.mv (cu 0))]
def Z0t6:List J:=[oj 7 (.call 183 []),oj 5 (.mv 7)]
def Z0t7:List J:=[oj 8 (.mv 1),oj 9 (.conv .u64 8),oj 10 (.mv 5),oj 11 (.bin .sub 10 (ci 1)),oj 12 (.conv .u64 11),oj 13 (.bin .and 9 12),oj 6 (.mv 13)]
def Z0t8:List J:=[oj 14 (.mv 0),oj 15 (.mv 6),oj 16 (.bin .shr 14 15),oj 17 (.mv 0),oj 18 (.mv 5),oj 19 (.conv .u64 18),oj 20 (.mv 6),oj 21 (.bin .sub 19 20),oj 22 (.bin .shl 17 21),oj 23 (.bin .or 16 22),oj 4 (.mv 23)]
def d220:FnD:=⟨24,[.tmp 4],(.seq (.ops Z0t5) (.seq (.ops Z0t6) (.seq (.ops Z0t7) (.seq (.ops Z0t8) .ret))))⟩
theorem Z10c:okF Tryz.prog 220 d220=true:=by kernel_rfl
def Z0t3:List J:=[oj 8 (.mv (cu 0))]
def Z0t4:Sch:=(.p [0] (oj 9 (.mv 0)) (.p [1] (oj 10 (.mv 1)) (.p [2] (oj 11 (.call 220 [9,10])) (.p [3] (oj 12 (.mv 0)) (.p [4] (oj 13 (.mv 2)) (.p [5] (oj 14 (.call 220 [12,13])) (.p [6] (oj 15 (.bin .xor 11 14)) (.p [7] (oj 16 (.mv 0)) (.p [8] (oj 17 (.mv 3)) (.p [9] (oj 18 (.bin .shr 16 17)) (.p [10] (oj 19 (.bin .xor 15 18)) (.p [11] (oj 8 (.mv 19)) .nil))))))))))))
def d219:FnD:=⟨20,[.tmp 8],(.seq (.ops Z0t3) (.seq (.draw Z0t4 []) .ret))⟩
theorem Z10b:okF Tryz.prog 219 d219=true:=by kernel_rfl
def Z0qx:List J:=[oj 1 (.bx 192 0),oj 2 (.al 211 [.ints .u64 80 (List.replicate 80 0)])]
def Z0qy:List J:=[oj 3 (.al 211 [.ints .u64 80 (List.replicate 80 0)])]
def Z0qz:List J:=[oj 5 (.mv (ci 0))]
def Z0r0:List J:=[oj 6 (.bin .lss 5 (ci 80))]
def Z0r1:List J:=[oj 7 (.mv 5),oj 4 (.mv 7)]
def Z0r2:List J:=[oj 8 (.mv 4),oj 9 (.bin .lss 8 (ci 16))]
def Z0r3:List J:=[oj 11 (.mv 4),oj 12 (.sla 128 1 1 none none none),oj 13 (.mv 4),oj 14 (.bin .mul (ci 8) 13),oj 15 (.call 218 [12,14]),oj 10 (.mv 15),oj 16 (.ext 10 0),oj 17 (.ext 10 1),oj 18 (.ia 80 1 3 11),on_ (.st 1 18 16)]
def Z0r4:Sch:=(.p [0] (oj 19 (.mv 4)) (.p [1] (oj 20 (.mv 4)) (.p [2] (oj 21 (.bin .sub 20 (ci 2))) (.p [3] (oj 22 (.ia 80 1 3 21)) (.p [6] (oj 25 (.mv 4)) (.p [7] (oj 26 (.bin .sub 25 (ci 7))) (.p [8] (oj 27 (.ia 80 1 3 26)) (.p [11] (oj 30 (.mv 4)) (.p [12] (oj 31 (.bin .sub 30 (ci 15))) (.p [13] (oj 32 (.ia 80 1 3 31)) (.p [17] (oj 36 (.mv 4)) (.p [18] (oj 37 (.bin .sub 36 (ci 16))) (.p [19] (oj 38 (.ia 80 1 3 37)) (.q [4] (oj 23 (.ld 1 false 22)) (.p [5] (oj 24 (.call 219 [23,(ci 19),(ci 61),(ci 6)])) (.q [9] (oj 28 (.ld 1 false 27)) (.p [10] (oj 29 (.bin .add 24 28)) (.q [14] (oj 33 (.ld 1 false 32)) (.p [15] (oj 34 (.call 219 [33,(ci 1),(ci 8),(ci 7)])) (.p [16] (oj 35 (.bin .add 29 34)) (.q [20] (oj 39 (.ld 1 false 38)) (.p [21] (oj 40 (.bin .add 35 39)) (.p [22] (oj 41 (.ia 80 1 3 19)) (.e 23 (oe (.st 1 41 40)) .nil))))))))))))))))))))))))
def Z09g:IC:=(.seq (.ops Z0r1) (.seq (.seq (.ops Z0r2) (.cond 9 (.seq (.ops Z0r3) (.exit 1)) .skip)) (.draw Z0r4 [23])))
def Z0r5:List J:=[oj 42 (.bin .add 5 (ci 1)),oj 5 (.mv 42)]
def Z0bb:IC:=(.seq (.ops Z0r0) (.seq (.cond 6 .skip (.exit 0)) (.seq (.block 1 Z09g) (.ops Z0r5))))
def Z09f:IC:=(.loop Z0bb)
def Z0r6:List J:=[oj 43 (.ld 80 true 3),on_ (.st 80 2 43)]
def d201:FnD:=⟨44,[.cell 2 80 true],(.seq (.ops Z0qx) (.seq (.ops Z0qy) (.seq (.seq (.ops Z0qz) (.block 0 Z09f)) (.seq (.ops Z0r6) .ret))))⟩
theorem Z0zx:okF Tryz.prog 201 d201=true:=by kernel_rfl
def Z0r7:List J:=[oj 8 (.mv (cu 0))]
def Z0r8:List J:=[oj 9 (.mv 0),oj 10 (.mv 1),oj 11 (.call 220 [9,10]),oj 12 (.mv 0),oj 13 (.mv 2),oj 14 (.call 220 [12,13]),oj 15 (.bin .xor 11 14),oj 16 (.mv 0),oj 17 (.mv 3),oj 18 (.call 220 [16,17]),oj 19 (.bin .xor 15 18),oj 8 (.mv 19)]
def d202:FnD:=⟨20,[.tmp 8],(.seq (.ops Z0r7) (.seq (.ops Z0r8) .ret))⟩
theorem Z0zy:okF Tryz.prog 202 d202=true:=by kernel_rfl
def Z0kh:List J:=[oj 2 (.bx 144 0),oj 3 (.bx 192 1),oj 4 (.al 144 [.ints .u64 8 (List.replicate 8 0)])]
def Z0ki:List J:=[oj 20 (.ld 128 true 3),oj 21 (.call 201 [20]),oj 5 (.al 211 [.ints .u64 80 (List.replicate 80 0)]),on_ (.st 80 5 21)]
def Z0kj:Sch:=(.p [0] (oj 22 (.ia 8 1 2 (ci 0))) (.p [2] (oj 24 (.ia 8 1 2 (ci 1))) (.p [4] (oj 26 (.ia 8 1 2 (ci 2))) (.p [6] (oj 28 (.ia 8 1 2 (ci 3))) (.q [1] (oj 23 (.ld 1 false 22)) (.p [8] (oj 6 (.mv 23)) (.q [3] (oj 25 (.ld 1 false 24)) (.p [9] (oj 7 (.mv 25)) (.q [5] (oj 27 (.ld 1 false 26)) (.p [10] (oj 8 (.mv 27)) (.q [7] (oj 29 (.ld 1 false 28)) (.p [11] (oj 9 (.mv 29)) .nil))))))))))))
def Z0kk:Sch:=(.p [0] (oj 30 (.ia 8 1 2 (ci 4))) (.p [2] (oj 32 (.ia 8 1 2 (ci 5))) (.p [4] (oj 34 (.ia 8 1 2 (ci 6))) (.p [6] (oj 36 (.ia 8 1 2 (ci 7))) (.q [1] (oj 31 (.ld 1 false 30)) (.p [8] (oj 10 (.mv 31)) (.q [3] (oj 33 (.ld 1 false 32)) (.p [9] (oj 11 (.mv 33)) (.q [5] (oj 35 (.ld 1 false 34)) (.p [10] (oj 12 (.mv 35)) (.q [7] (oj 37 (.ld 1 false 36)) (.p [11] (oj 13 (.mv 37)) .nil))))))))))))
def Z0kl:List J:=[oj 38 (.ld 80 true (.global 4)),oj 39 (.mv (ci 0))]
def Z0km:List J:=[oj 40 (.bin .lss 39 (ci 80))]
def Z0kn:List J:=[oj 41 (.mv 39),oj 42 (.idx 80 1 false 38 39),oj 14 (.mv 41),oj 15 (.mv 42)]
def Z0ko:Sch:=(.p [0] (oj 43 (.mv 13)) (.p [1] (oj 44 (.mv 10)) (.p [2] (oj 45 (.call 202 [44,(ci 14),(ci 18),(ci 41)])) (.p [3] (oj 46 (.bin .add 43 45)) (.p [4] (oj 47 (.mv 10)) (.p [5] (oj 48 (.mv 11)) (.p [6] (oj 49 (.bin .and 47 48)) (.p [7] (oj 50 (.mv 10)) (.p [8] (oj 51 (.un .xor 50)) (.p [9] (oj 52 (.mv 12)) (.p [10] (oj 53 (.bin .and 51 52)) (.p [11] (oj 54 (.bin .xor 49 53)) (.p [12] (oj 55 (.bin .add 46 54)) (.p [13] (oj 56 (.mv 15)) (.p [14] (oj 57 (.bin .add 55 56)) (.p [15] (oj 58 (.mv 14)) (.p [16] (oj 59 (.ia 80 1 5 58)) (.q [17] (oj 60 (.ld 1 false 59)) (.p [18] (oj 61 (.bin .add 57 60)) (.p [19] (oj 16 (.mv 61)) .nil))))))))))))))))))))
def Z0kp:List J:=[oj 62 (.mv 6),oj 63 (.call 202 [62,(ci 28),(ci 34),(ci 39)]),oj 64 (.mv 6),oj 65 (.mv 7),oj 66 (.bin .and 64 65),oj 67 (.mv 6),oj 68 (.mv 8),oj 69 (.bin .and 67 68),oj 70 (.bin .xor 66 69),oj 71 (.mv 7),oj 72 (.mv 8),oj 73 (.bin .and 71 72),oj 74 (.bin .xor 70 73),oj 75 (.bin .add 63 74),oj 17 (.mv 75)]
def Z0kq:List J:=[oj 76 (.mv 12),oj 77 (.mv 11),oj 78 (.mv 10),oj 79 (.mv 9),oj 80 (.mv 16),oj 81 (.bin .add 79 80),oj 82 (.mv 8),oj 83 (.mv 7),oj 84 (.mv 6),oj 85 (.mv 16),oj 86 (.mv 17),oj 87 (.bin .add 85 86),oj 13 (.mv 76),oj 12 (.mv 77),oj 11 (.mv 78),oj 10 (.mv 81),oj 9 (.mv 82),oj 8 (.mv 83),oj 7 (.mv 84),oj 6 (.mv 87)]
def Z088:IC:=(.seq (.ops Z0kn) (.seq (.draw Z0ko []) (.seq (.ops Z0kp) (.ops Z0kq))))
def Z03u:List J:=[oj 88 (.bin .add 39 (ci 1)),oj 39 (.mv 88)]
def Z0ap:IC:=(.seq (.ops Z0km) (.seq (.cond 40 .skip (.exit 0)) (.seq (.block 1 Z088) (.ops Z03u))))
def Z087:IC:=(.loop Z0ap)
def Z03v:List J:=[oj 89 (.mv 6),oj 90 (.mv 7),oj 91 (.mv 8),oj 92 (.mv 9),oj 93 (.mv 10),oj 94 (.mv 11),oj 95 (.mv 12),oj 96 (.mv 13),oj 97 (.bd [.ints .u64 8 (List.replicate 8 0)] [(0,1,89),(1,1,90),(2,1,91),(3,1,92),(4,1,93),(5,1,94),(6,1,95),(7,1,96)]),oj 98 (.mv (ci 0))]
def Z03w:List J:=[oj 99 (.bin .lss 98 (ci 8))]
def Z03x:List J:=[oj 100 (.mv 98),oj 101 (.idx 8 1 false 97 98),oj 18 (.mv 100),oj 19 (.mv 101)]
def Z03y:List J:=[oj 102 (.mv 18),oj 103 (.ia 8 1 2 102),oj 104 (.ld 1 false 103),oj 105 (.mv 19),oj 106 (.bin .add 104 105),oj 107 (.ia 8 1 2 102),on_ (.st 1 107 106)]
def Z08a:IC:=(.seq (.ops Z03x) (.ops Z03y))
def Z03z:List J:=[oj 108 (.bin .add 98 (ci 1)),oj 98 (.mv 108)]
def Z0aq:IC:=(.seq (.ops Z03w) (.seq (.cond 99 .skip (.exit 2)) (.seq (.block 3 Z08a) (.ops Z03z))))
def Z089:IC:=(.loop Z0aq)
def Z040:List J:=[oj 109 (.ld 8 true 2),on_ (.st 8 4 109)]
def d159:FnD:=⟨110,[.cell 4 8 true],(.seq (.ops Z0kh) (.seq (.ops Z0ki) (.seq (.draw Z0kj []) (.seq (.draw Z0kk []) (.seq (.seq (.ops Z0kl) (.block 0 Z087)) (.seq (.seq (.ops Z03v) (.block 2 Z089)) (.seq (.ops Z040) .ret)))))))⟩
theorem Z0yx:okF Tryz.prog 159 d159=true:=by kernel_rfl
def Z16o:List J:=[oj 5 (.mv 0),oj 6 (.nilc 5),oj 7 (.fa 137 6),oj 8 (.ld 1 false 7),oj 9 (.mv 1),oj 10 (.len 9),oj 11 (.conv .u64 10),oj 12 (.bin .add 8 11),oj 13 (.nilc 5),oj 14 (.fa 137 13),on_ (.st 1 14 12)]
def Z16p:List J:=[oj 15 (.mv 1),oj 16 (.len 15),oj 17 (.bin .gtr 16 (ci 0))]
def Z16q:Sch:=(.p [0] (oj 18 (.mv 0)) (.p [1] (oj 19 (.nilc 18)) (.p [2] (oj 20 (.fa 8 19)) (.p [3] (oj 21 (.mv 0)) (.p [4] (oj 22 (.nilc 21)) (.p [5] (oj 23 (.fa 136 22)) (.p [8] (oj 26 (.mv 1)) (.q [6] (oj 24 (.ld 1 false 23)) (.p [7] (oj 25 (.sla 128 1 20 (some 24) none none)) (.e 9 (oi 27 (.cpy 1 25 26)) (.p [10] (oj 4 (.mv 27)) .nil)))))))))))
def Z16r:List J:=[oj 28 (.mv 1),oj 29 (.mv 4),oj 30 (.sls 1 28 (some 29) none none),oj 1 (.mv 30)]
def Z16s:List J:=[oj 31 (.mv 0),oj 32 (.nilc 31),oj 33 (.fa 136 32),oj 34 (.ld 1 false 33),oj 35 (.mv 4),oj 36 (.bin .add 34 35),oj 37 (.nilc 31),oj 38 (.fa 136 37),on_ (.st 1 38 36)]
def Z16t:List J:=[oj 39 (.mv 0),oj 40 (.nilc 39),oj 41 (.fa 136 40),oj 42 (.ld 1 false 41),oj 43 (.bin .eql 42 (ci 128))]
def Z16u:Sch:=(.p [0] (oj 44 (.mv 0)) (.p [1] (oj 45 (.mv 0)) (.p [2] (oj 46 (.nilc 45)) (.p [3] (oj 47 (.fa 0 46)) (.p [5] (oj 49 (.mv 0)) (.p [6] (oj 50 (.nilc 49)) (.p [7] (oj 51 (.fa 8 50)) (.q [4] (oj 48 (.ld 8 true 47)) (.q [8] (oj 52 (.ld 128 true 51)) (.p [9] (oj 53 (.call 159 [48,52])) (.p [10] (oj 54 (.nilc 44)) (.p [11] (oj 55 (.fa 0 54)) (.e 12 (oe (.st 8 55 53)) .nil)))))))))))))
def Z16v:List J:=[oj 56 (.mv 0),oj 57 (.nilc 56),oj 58 (.fa 136 57),on_ (.st 1 58 (ci 0))]
def Z0wv:IC:=(.seq (.draw Z16q [9]) (.seq (.ops Z16r) (.seq (.ops Z16s) (.seq (.ops Z16t) (.cond 43 (.seq (.draw Z16u [12]) (.ops Z16v)) .skip)))))
def Z0xh:IC:=(.seq (.seq (.ops Z16p) (.cond 17 .skip (.exit 0))) (.block 1 Z0wv))
def Z0wu:IC:=(.loop Z0xh)
def d97:FnD:=⟨59,[],(.seq (.ops Z16o) (.block 0 Z0wu))⟩
theorem ok97:okF Tryz.prog 97 d97=true:=by kernel_rfl
def Z0fi:List J:=[oj 2 (.mv (.const (.slice none 0 0)))]
def Z0fj:List J:=[oj 5 (.call 183 []),oj 6 (.bin .quo 5 (ci 8)),oj 7 (.mks 5 1 [.one (.int .u8 0)] 6 6),oj 3 (.mv 7)]
def Z0fk:List J:=[oj 8 (.mv 3),oj 9 (.len 8),oj 10 (.bin .sub 9 (ci 1)),oj 4 (.mv 10)]
def Z0fl:List J:=[oj 11 (.mv 4),oj 12 (.bin .geq 11 (ci 0))]
def Z0fn:List J:=[oj 15 (.mv 3),oj 16 (.mv 4),oj 17 (.mv 0),oj 18 (.conv .u8 17),oj 19 (.ias 1 15 16),on_ (.st 1 19 18)]
def Z0fo:List J:=[oj 20 (.mv 0),oj 21 (.bin .shr 20 (cu 8)),oj 0 (.mv 21)]
def Z07g:IC:=(.seq (.ops Z0fn) (.ops Z0fo))
def Z0fm:List J:=[oj 13 (.mv 4),oj 14 (.bin .sub 13 (ci 1)),oj 4 (.mv 14)]
def Z0ab:IC:=(.seq (.seq (.ops Z0fl) (.cond 12 .skip (.exit 0))) (.seq (.block 1 Z07g) (.ops Z0fm)))
def Z07f:IC:=(.loop Z0ab)
def Z0fp:List J:=[oj 22 (.mv 3),oj 2 (.mv 22)]
def d118:FnD:=⟨23,[.tmp 2],(.seq (.ops Z0fi) (.seq (.ops Z0fj) (.seq (.seq (.ops Z0fk) (.block 0 Z07f)) (.seq (.ops Z0fp) .ret))))⟩
theorem Z0y2:okF Tryz.prog 118 d118=true:=by kernel_rfl
def Z0li:List J:=[oj 2 (.mv (.const (.pointer none)))]
def Z0lj:List J:=[oj 4 (.mv 0),oj 5 (.nilc 4),oj 6 (.ld 138 true 5),oj 3 (.al 194 [.ints .u64 8 (List.replicate 8 0),.ints .u8 128 (List.replicate 128 0),.one (.int .i64 0),.one (.int .u64 0)]),on_ (.st 138 3 6)]
def Z0lk:List J:=[oj 2 (.mv 3)]
def d163:FnD:=⟨7,[.tmp 2],(.seq (.ops Z0li) (.seq (.ops Z0lj) (.seq (.ops Z0lk) .ret)))⟩
theorem Z0z1:okF Tryz.prog 163 d163=true:=by kernel_rfl
def Z0ll:List J:=[oj 2 (.mv (.const (.slice none 0 0)))]
def Z0lm:List J:=[oj 5 (.mv 0),oj 6 (.bin .add 5 (cu 17)),oj 7 (.bin .rem 6 (cu 128)),oj 8 (.conv .i64 7),oj 9 (.bin .sub (ci 128) 8),oj 10 (.bin .rem 9 (ci 128)),oj 3 (.mv 10)]
def Z0ln:List J:=[oj 11 (.mv 3),oj 12 (.bin .add (ci 17) 11),oj 13 (.mks 5 1 [.one (.int .u8 0)] (ci 0) 12),oj 4 (.mv 13)]
def Z0lo:List J:=[oj 14 (.mv 4),oj 15 (.bs 5 1 1 [.one (.int .u8 0)] [(0,1,(.const (.int .u8 128)))]),oj 16 (.app 5 1 1 [.one (.int .u8 0)] 14 15),oj 4 (.mv 16)]
def Z0lp:List J:=[oj 17 (.mv 4),oj 18 (.mv 3),oj 19 (.apz 5 1 1 [.one (.int .u8 0)] 17 18),oj 4 (.mv 19)]
def Z0lq:List J:=[oj 20 (.mv 4),oj 21 (.mv 0),oj 22 (.bin .shr 21 (cu 61)),oj 23 (.call 118 [22]),oj 24 (.app 5 1 1 [.one (.int .u8 0)] 20 23),oj 4 (.mv 24)]
def Z0lr:List J:=[oj 25 (.mv 4),oj 26 (.mv 0),oj 27 (.bin .shl 26 (cu 3)),oj 28 (.call 118 [27]),oj 29 (.app 5 1 1 [.one (.int .u8 0)] 25 28),oj 2 (.mv 29)]
def d164:FnD:=⟨30,[.tmp 2],(.seq (.ops Z0ll) (.seq (.ops Z0lm) (.seq (.ops Z0ln) (.seq (.ops Z0lo) (.seq (.ops Z0lp) (.seq (.ops Z0lq) (.seq (.ops Z0lr) .ret)))))))⟩
theorem Z0z2:okF Tryz.prog 164 d164=true:=by kernel_rfl
def Z174:List J:=[oj 2 (.al 94 [.ints .u8 64 (List.replicate 64 0)])]
def Z175:List J:=[oj 7 (.mv 0),oj 8 (.call 163 [7]),oj 3 (.mv 8)]
def Z176:List J:=[oj 9 (.mv 3),oj 10 (.mv 0),oj 11 (.nilc 10),oj 12 (.fa 137 11),oj 13 (.ld 1 false 12),oj 14 (.call 164 [13]),oj 15 (.call 97 [9,14])]
def Z177:List J:=[oj 4 (.al 94 [.ints .u8 64 (List.replicate 64 0)])]
def Z178:List J:=[oj 16 (.mv 3),oj 17 (.nilc 16),oj 18 (.fa 0 17),oj 19 (.ld 8 true 18),oj 20 (.mv (ci 0))]
def Z179:List J:=[oj 21 (.bin .lss 20 (ci 8))]
def Z17a:List J:=[oj 22 (.mv 20),oj 23 (.idx 8 1 false 19 20),oj 5 (.mv 22),oj 6 (.mv 23)]
def Z17b:Sch:=(.p [0] (oj 24 (.mv 5)) (.p [1] (oj 25 (.bin .mul (ci 8) 24)) (.p [2] (oj 26 (.sla 64 1 4 (some 25) none none)) (.p [3] (oj 27 (.mv 6)) (.e 4 (oi 28 (.call 118 [27])) (.e 5 (oi 29 (.cpy 1 26 28)) .nil))))))
def Z0wz:IC:=(.seq (.ops Z17a) (.draw Z17b [5]))
def Z17c:List J:=[oj 30 (.bin .add 20 (ci 1)),oj 20 (.mv 30)]
def Z0xj:IC:=(.seq (.ops Z179) (.seq (.cond 21 .skip (.exit 0)) (.seq (.block 1 Z0wz) (.ops Z17c))))
def Z0wy:IC:=(.loop Z0xj)
def Z17d:List J:=[oj 31 (.ld 64 true 4),on_ (.st 64 2 31)]
def d99:FnD:=⟨32,[.cell 2 64 true],(.seq (.ops Z174) (.seq (.ops Z175) (.seq (.ops Z176) (.seq (.ops Z177) (.seq (.seq (.ops Z178) (.block 0 Z0wy)) (.seq (.ops Z17d) .ret))))))⟩
theorem ok99:okF Tryz.prog 99 d99=true:=by kernel_rfl
def Z156:List J:=[oj 2 (.al 94 [.ints .u8 64 (List.replicate 64 0)])]
def Z157:List J:=[oj 4 (.call 96 []),oj 3 (.mv 4)]
def Z158:List J:=[oj 5 (.mv 3),oj 6 (.mv 0),oj 7 (.call 97 [5,6])]
def Z159:List J:=[oj 8 (.mv 3),oj 9 (.call 99 [8]),on_ (.st 64 2 9)]
def d88:FnD:=⟨10,[.cell 2 64 true],(.seq (.ops Z156) (.seq (.ops Z157) (.seq (.ops Z158) (.seq (.ops Z159) .ret))))⟩
theorem ok88:okF Tryz.prog 88 d88=true:=by kernel_rfl
def Z15a:List J:=[oj 1 (.bx 22 0),oj 2 (.al 74 [.ints .u8 32 (List.replicate 32 0)])]
def Z15b:List J:=[oj 3 (.ia 32 1 1 (ci 0)),oj 4 (.ld 1 false 3),oj 5 (.bin .andNot 4 (.const (.int .u8 7))),oj 6 (.ia 32 1 1 (ci 0)),on_ (.st 1 6 5)]
def Z15c:List J:=[oj 7 (.ia 32 1 1 (ci 31)),oj 8 (.ld 1 false 7),oj 9 (.bin .and 8 (.const (.int .u8 127))),oj 10 (.bin .or 9 (.const (.int .u8 64))),oj 11 (.ia 32 1 1 (ci 31)),on_ (.st 1 11 10)]
def Z15d:List J:=[oj 12 (.ld 32 true 1),on_ (.st 32 2 12)]
def d89:FnD:=⟨13,[.cell 2 32 true],(.seq (.ops Z15a) (.seq (.ops Z15b) (.seq (.ops Z15c) (.seq (.ops Z15d) .ret))))⟩
theorem ok89:okF Tryz.prog 89 d89=true:=by kernel_rfl
def Z12p:List J:=[oj 1 (.bx 23 0),oj 2 (.al 74 [.ints .u8 32 (List.replicate 32 0)]),oj 3 (.mv (.const (.slice none 0 0)))]
def Z12q:List J:=[oj 5 (.sla 32 1 1 none none none),oj 6 (.call 88 [5]),oj 4 (.al 94 [.ints .u8 64 (List.replicate 64 0)]),on_ (.st 64 4 6)]
def Z12r:Sch:=(.p [0] (oj 7 (.sla 64 1 4 none (some (ci 32)) none)) (.p [1] (oj 8 (.s2a 32 7)) (.p [4] (oj 11 (.sla 64 1 4 (some (ci 32)) none none)) (.q [2] (oj 9 (.ld 32 true 8)) (.p [3] (oj 10 (.call 89 [9])) (.e 5 (oe (.st 32 2 10)) (.p [6] (oj 3 (.mv 11)) .nil)))))))
def d49:FnD:=⟨12,[.cell 2 32 true,.tmp 3],(.seq (.ops Z12p) (.seq (.ops Z12q) (.seq (.draw Z12r [5]) .ret)))⟩
theorem ok49:okF Tryz.prog 49 d49=true:=by kernel_rfl
def Z0kb:List J:=[oj 1 (.bx 80 0),oj 2 (.al 80 [Z5])]
def Z0kc:List J:=[oj 3 (.ia 5 1 1 (ci 0)),oj 4 (.ld 1 false 3),oj 5 (.bin .and 4 (cu 2251799813685247)),oj 6 (.ia 5 1 1 (ci 4)),oj 7 (.ld 1 false 6),oj 8 (.bin .shr 7 (cu 51)),oj 9 (.bin .mul 8 (cu 19)),oj 10 (.bin .add 5 9),oj 11 (.ia 5 1 1 (ci 1)),oj 12 (.ld 1 false 11),oj 13 (.bin .and 12 (cu 2251799813685247)),oj 14 (.ia 5 1 1 (ci 0)),oj 15 (.ld 1 false 14),oj 16 (.bin .shr 15 (cu 51)),oj 17 (.bin .add 13 16),oj 18 (.ia 5 1 1 (ci 2)),oj 19 (.ld 1 false 18),oj 20 (.bin .and 19 (cu 2251799813685247)),oj 21 (.ia 5 1 1 (ci 1)),oj 22 (.ld 1 false 21),oj 23 (.bin .shr 22 (cu 51)),oj 24 (.bin .add 20 23),oj 25 (.ia 5 1 1 (ci 3)),oj 26 (.ld 1 false 25),oj 27 (.bin .and 26 (cu 2251799813685247)),oj 28 (.ia 5 1 1 (ci 2)),oj 29 (.ld 1 false 28),oj 30 (.bin .shr 29 (cu 51)),oj 31 (.bin .add 27 30),oj 32 (.ia 5 1 1 (ci 4)),oj 33 (.ld 1 false 32),oj 34 (.bin .and 33 (cu 2251799813685247)),oj 35 (.ia 5 1 1 (ci 3)),oj 36 (.ld 1 false 35),oj 37 (.bin .shr 36 (cu 51)),oj 38 (.bin .add 34 37),oj 39 (.bd [Z5] [(0,1,10),(1,1,17),(2,1,24),(3,1,31),(4,1,38)]),on_ (.st 5 2 39)]
def d156:FnD:=⟨40,[.cell 2 5 true],(.seq (.ops Z0kb) (.seq (.ops Z0kc) .ret))⟩
theorem Z0yv:okF Tryz.prog 156 d156=true:=by kernel_rfl
def Z0k1:List J:=[oj 1 (.bx 80 0),oj 2 (.al 80 [Z5])]
def Z0k2:List J:=[oj 7 (.ld 5 true 1),oj 8 (.call 156 [7]),oj 9 (.call 156 [8]),on_ (.st 5 1 9)]
def Z0k3:List J:=[oj 10 (.ia 5 1 1 (ci 0)),oj 11 (.ld 1 false 10),oj 12 (.bin .add 11 (cu 19)),oj 13 (.bin .shr 12 (cu 51)),oj 3 (.mv 13)]
def Z0k4:List J:=[oj 14 (.sla 5 1 1 (some (ci 1)) none none),oj 15 (.len 14),oj 16 (.mv (ci 0))]
def Z0k5:List J:=[oj 17 (.bin .lss 16 15)]
def Z0k6:List J:=[oj 18 (.ias 1 14 16),oj 19 (.ld 1 false 18),oj 5 (.mv 19)]
def Z0k7:List J:=[oj 20 (.mv 5),oj 21 (.mv 3),oj 22 (.bin .add 20 21),oj 23 (.bin .shr 22 (cu 51)),oj 3 (.mv 23)]
def Z084:IC:=(.seq (.ops Z0k6) (.ops Z0k7))
def Z0k8:List J:=[oj 24 (.bin .add 16 (ci 1)),oj 16 (.mv 24)]
def Z0an:IC:=(.seq (.ops Z0k5) (.seq (.cond 17 .skip (.exit 0)) (.seq (.block 1 Z084) (.ops Z0k8))))
def Z083:IC:=(.loop Z0an)
def Z0k9:List J:=[oj 25 (.ia 5 1 1 (ci 0)),oj 26 (.ld 1 false 25),oj 27 (.mv 3),oj 28 (.bin .mul (cu 19) 27),oj 29 (.bin .add 26 28),oj 30 (.ia 5 1 1 (ci 0)),on_ (.st 1 30 29)]
def Z0ka:List J:=[oj 31 (.mv (ci 0))]
def Z03n:List J:=[oj 32 (.bin .lss 31 (ci 4))]
def Z03o:List J:=[oj 33 (.mv 31),oj 6 (.mv 33)]
def Z03p:Sch:=(.p [0] (oj 34 (.mv 6)) (.p [1] (oj 35 (.bin .add 34 (ci 1))) (.p [2] (oj 36 (.ia 5 1 1 35)) (.p [4] (oj 38 (.mv 6)) (.p [5] (oj 39 (.ia 5 1 1 38)) (.q [3] (oj 37 (.ld 1 false 36)) (.q [6] (oj 40 (.ld 1 false 39)) (.p [7] (oj 41 (.bin .shr 40 (cu 51))) (.p [8] (oj 42 (.bin .add 37 41)) (.p [9] (oj 43 (.ia 5 1 1 35)) (.e 10 (oe (.st 1 43 42)) .nil)))))))))))
def Z03q:List J:=[oj 44 (.mv 6),oj 45 (.ia 5 1 1 44),oj 46 (.ld 1 false 45),oj 47 (.bin .and 46 (cu 2251799813685247)),oj 48 (.ia 5 1 1 44),on_ (.st 1 48 47)]
def Z086:IC:=(.seq (.ops Z03o) (.seq (.draw Z03p [10]) (.ops Z03q)))
def Z03r:List J:=[oj 49 (.bin .add 31 (ci 1)),oj 31 (.mv 49)]
def Z0ao:IC:=(.seq (.ops Z03n) (.seq (.cond 32 .skip (.exit 2)) (.seq (.block 3 Z086) (.ops Z03r))))
def Z085:IC:=(.loop Z0ao)
def Z03s:List J:=[oj 50 (.ia 5 1 1 (ci 4)),oj 51 (.ld 1 false 50),oj 52 (.bin .and 51 (cu 2251799813685247)),oj 53 (.ia 5 1 1 (ci 4)),on_ (.st 1 53 52)]
def Z03t:List J:=[oj 54 (.ld 5 true 1),on_ (.st 5 2 54)]
def d155:FnD:=⟨55,[.cell 2 5 true],(.seq (.ops Z0k1) (.seq (.ops Z0k2) (.seq (.ops Z0k3) (.seq (.seq (.ops Z0k4) (.block 0 Z083)) (.seq (.ops Z0k9) (.seq (.seq (.ops Z0ka) (.block 2 Z085)) (.seq (.ops Z03s) (.seq (.ops Z03t) .ret))))))))⟩
theorem Z0yu:okF Tryz.prog 155 d155=true:=by kernel_rfl
def Z0qn:List J:=[oj 4 (.mv (cu 0)),oj 5 (.mv (cu 0))]
def Z0qo:List J:=[oj 14 (.mv 0),oj 15 (.bin .and 14 (cu 4294967295)),oj 6 (.mv 15)]
def Z0qp:List J:=[oj 16 (.mv 0),oj 17 (.bin .shr 16 (cu 32)),oj 7 (.mv 17)]
def Z0qq:List J:=[oj 18 (.mv 1),oj 19 (.bin .and 18 (cu 4294967295)),oj 8 (.mv 19)]
def Z0qr:List J:=[oj 20 (.mv 1),oj 21 (.bin .shr 20 (cu 32)),oj 9 (.mv 21)]
def Z0qs:List J:=[oj 22 (.mv 6),oj 23 (.mv 8),oj 24 (.bin .mul 22 23),oj 10 (.mv 24)]
def Z0qt:List J:=[oj 25 (.mv 7),oj 26 (.mv 8),oj 27 (.bin .mul 25 26),oj 28 (.mv 10),oj 29 (.bin .shr 28 (cu 32)),oj 30 (.bin .add 27 29),oj 11 (.mv 30)]
def Z0qu:List J:=[oj 31 (.mv 11),oj 32 (.bin .and 31 (cu 4294967295)),oj 12 (.mv 32)]
def Z0qv:List J:=[oj 33 (.mv 11),oj 34 (.bin .shr 33 (cu 32)),oj 13 (.mv 34)]
def Z0qw:List J:=[oj 35 (.mv 12),oj 36 (.mv 6),oj 37 (.mv 9),oj 38 (.bin .mul 36 37),oj 39 (.bin .add 35 38),oj 12 (.mv 39)]
def Z04i:List J:=[oj 40 (.mv 7),oj 41 (.mv 9),oj 42 (.bin .mul 40 41),oj 43 (.mv 13),oj 44 (.bin .add 42 43),oj 45 (.mv 12),oj 46 (.bin .shr 45 (cu 32)),oj 47 (.bin .add 44 46),oj 4 (.mv 47)]
def Z04j:List J:=[oj 48 (.mv 0),oj 49 (.mv 1),oj 50 (.bin .mul 48 49),oj 5 (.mv 50)]
def d200:FnD:=⟨51,[.tmp 4,.tmp 5],(.seq (.ops Z0qn) (.seq (.ops Z0qo) (.seq (.ops Z0qp) (.seq (.ops Z0qq) (.seq (.ops Z0qr) (.seq (.ops Z0qs) (.seq (.ops Z0qt) (.seq (.ops Z0qu) (.seq (.ops Z0qv) (.seq (.ops Z0qw) (.seq (.ops Z04i) (.seq (.ops Z04j) .ret))))))))))))⟩
theorem Z0zw:okF Tryz.prog 200 d200=true:=by kernel_rfl
def Z0kd:List J:=[oj 10 (.mv 1),oj 11 (.mv 2),oj 12 (.call 200 [10,11]),oj 9 (.mv 12),oj 13 (.ext 9 0),oj 14 (.ext 9 1),oj 6 (.mv 13),oj 7 (.mv 14)]
def Z0ke:List J:=[oj 8 (.mv (cu 0))]
def Z0kf:List J:=[oj 16 (.mv 0),oj 17 (.mv 0),oj 18 (.nilc 17),oj 19 (.fa 1 18),oj 20 (.ld 1 false 19),oj 21 (.mv 7),oj 22 (.xcall 158 [20,21,(cu 0)]),oj 15 (.mv 22),oj 23 (.ext 15 0),oj 24 (.ext 15 1),oj 25 (.nilc 16),oj 26 (.fa 1 25),on_ (.st 1 26 23),oj 8 (.mv 24)]
def Z0kg:List J:=[oj 28 (.mv 0),oj 29 (.mv 0),oj 30 (.nilc 29),oj 31 (.fa 0 30),oj 32 (.ld 1 false 31),oj 33 (.mv 6),oj 34 (.mv 8),oj 35 (.xcall 158 [32,33,34]),oj 27 (.mv 35),oj 36 (.ext 27 0),oj 37 (.ext 27 1),oj 38 (.nilc 28),oj 39 (.fa 0 38),on_ (.st 1 39 36)]
def d157:FnD:=⟨40,[],(.seq (.ops Z0kd) (.seq (.ops Z0ke) (.seq (.ops Z0kf) (.ops Z0kg))))⟩
theorem Z0yw:okF Tryz.prog 157 d157=true:=by kernel_rfl
def Z15q:List J:=[oj 2 (.bx 80 0),oj 3 (.bx 80 1),oj 4 (.al 80 [Z5])]
def Z15r:Sch:=(.q [0] (oj 19 (.ld 5 true 2)) (.p [1] (oj 20 (.call 156 [19])) (.q [2] (oj 21 (.ld 5 true 3)) (.p [3] (oj 22 (.call 156 [21])) (.e 4 (oe (.st 5 2 20)) (.e 5 (oe (.st 5 3 22)) .nil))))))
def Z15s:List J:=[oj 5 (.al 188 [Z10])]
def Z15t:List J:=[oj 23 (.ld 5 true 2),oj 24 (.mv (ci 0))]
def Z15u:List J:=[oj 25 (.bin .lss 24 (ci 5))]
def Z15v:List J:=[oj 26 (.mv 24),oj 27 (.idx 5 1 false 23 24),oj 6 (.mv 26),oj 7 (.mv 27)]
def Z15w:List J:=[oj 28 (.ld 5 true 3),oj 29 (.mv (ci 0))]
def Z15x:List J:=[oj 30 (.bin .lss 29 (ci 5))]
def Z15y:List J:=[oj 31 (.mv 29),oj 32 (.idx 5 1 false 28 29),oj 8 (.mv 31),oj 9 (.mv 32)]
def Z15z:List J:=[oj 33 (.mv 6),oj 34 (.mv 8),oj 35 (.bin .add 33 34),oj 36 (.bin .lss 35 (ci 5))]
def Z0ts:List J:=[oj 37 (.mv 6),oj 38 (.mv 8),oj 39 (.bin .add 37 38),oj 40 (.ia 5 2 5 39),oj 41 (.mv 7),oj 42 (.mv 9),oj 43 (.call 157 [40,41,42])]
def Z0tt:List J:=[oj 44 (.mv 6),oj 45 (.mv 8),oj 46 (.bin .add 44 45),oj 47 (.bin .sub 46 (ci 5)),oj 48 (.ia 5 2 5 47),oj 49 (.mv 7),oj 50 (.mv 9),oj 51 (.bin .mul (cu 19) 50),oj 52 (.call 157 [48,49,51])]
def Z0wl:IC:=(.seq (.ops Z15y) (.seq (.ops Z15z) (.cond 36 (.ops Z0ts) (.ops Z0tt))))
def Z0tu:List J:=[oj 53 (.bin .add 29 (ci 1)),oj 29 (.mv 53)]
def Z0xc:IC:=(.seq (.ops Z15x) (.seq (.cond 30 .skip (.exit 2)) (.seq (.block 3 Z0wl) (.ops Z0tu))))
def Z0wk:IC:=(.loop Z0xc)
def Z0wj:IC:=(.seq (.ops Z15v) (.seq (.ops Z15w) (.block 2 Z0wk)))
def Z0tv:List J:=[oj 54 (.bin .add 24 (ci 1)),oj 24 (.mv 54)]
def Z0xb:IC:=(.seq (.ops Z15u) (.seq (.cond 25 .skip (.exit 0)) (.seq (.block 1 Z0wj) (.ops Z0tv))))
def Z0wi:IC:=(.loop Z0xb)
def Z0tw:List J:=[oj 10 (.al 80 [Z5])]
def Z0tx:List J:=[oj 11 (.mv (cu 0))]
def Z0ty:List J:=[oj 55 (.ld 10 true 5),oj 56 (.mv (ci 0))]
def Z0tz:List J:=[oj 57 (.bin .lss 56 (ci 5))]
def Z0u0:List J:=[oj 58 (.mv 56),oj 59 (.idx 5 2 true 55 56),oj 13 (.al 187 [.ints .u64 2 (List.replicate 2 0)]),oj 12 (.mv 58),on_ (.st 2 13 59)]
def Z0u1:List J:=[oj 61 (.fa 1 13),oj 62 (.ld 1 false 61),oj 63 (.mv 11),oj 64 (.xcall 158 [62,63,(cu 0)]),oj 60 (.mv 64),oj 65 (.ext 60 0),oj 66 (.ext 60 1),oj 14 (.mv 65),oj 15 (.mv 66)]
def Z0u2:List J:=[oj 67 (.mv 12),oj 68 (.mv 14),oj 69 (.bin .and 68 (cu 2251799813685247)),oj 70 (.ia 5 1 10 67),on_ (.st 1 70 69)]
def Z0u3:List J:=[oj 71 (.fa 0 13),oj 72 (.ld 1 false 71),oj 73 (.mv 15),oj 74 (.bin .add 72 73),oj 75 (.bin .shl 74 (cu 13)),oj 76 (.mv 14),oj 77 (.bin .shr 76 (cu 51)),oj 78 (.bin .or 75 77),oj 11 (.mv 78)]
def Z0wn:IC:=(.seq (.ops Z0u0) (.seq (.ops Z0u1) (.seq (.ops Z0u2) (.ops Z0u3))))
def Z0u4:List J:=[oj 79 (.bin .add 56 (ci 1)),oj 56 (.mv 79)]
def Z0xd:IC:=(.seq (.ops Z0tz) (.seq (.cond 57 .skip (.exit 4)) (.seq (.block 5 Z0wn) (.ops Z0u4))))
def Z0wm:IC:=(.loop Z0xd)
def Z0u5:List J:=[oj 16 (.al 187 [.ints .u64 2 (List.replicate 2 0)])]
def Z0u6:List J:=[oj 80 (.mv 11),oj 81 (.call 157 [16,80,(cu 19)])]
def Z0u7:List J:=[oj 83 (.fa 1 16),oj 84 (.ld 1 false 83),oj 85 (.ia 5 1 10 (ci 0)),oj 86 (.ld 1 false 85),oj 87 (.xcall 158 [84,86,(cu 0)]),oj 82 (.mv 87),oj 88 (.ext 82 0),oj 89 (.ext 82 1),oj 17 (.mv 88),oj 18 (.mv 89)]
def Z0u8:List J:=[oj 90 (.mv 17),oj 91 (.bin .and 90 (cu 2251799813685247)),oj 92 (.ia 5 1 10 (ci 0)),on_ (.st 1 92 91)]
def Z0u9:List J:=[oj 93 (.ia 5 1 10 (ci 1)),oj 94 (.ld 1 false 93),oj 95 (.fa 0 16),oj 96 (.ld 1 false 95),oj 97 (.mv 18),oj 98 (.bin .add 96 97),oj 99 (.bin .shl 98 (cu 13)),oj 100 (.mv 17),oj 101 (.bin .shr 100 (cu 51)),oj 102 (.bin .or 99 101),oj 103 (.bin .add 94 102),oj 104 (.ia 5 1 10 (ci 1)),on_ (.st 1 104 103)]
def Z0ua:List J:=[oj 105 (.ld 5 true 10),oj 106 (.call 155 [105]),on_ (.st 5 4 106)]
def d92:FnD:=⟨107,[.cell 4 5 true],(.seq (.ops Z15q) (.seq (.draw Z15r [4,5]) (.seq (.ops Z15s) (.seq (.seq (.ops Z15t) (.block 0 Z0wi)) (.seq (.ops Z0tw) (.seq (.ops Z0tx) (.seq (.seq (.ops Z0ty) (.block 4 Z0wm)) (.seq (.ops Z0u5) (.seq (.ops Z0u6) (.seq (.ops Z0u7) (.seq (.ops Z0u8) (.seq (.ops Z0u9) (.seq (.ops Z0ua) .ret)))))))))))))⟩
theorem ok92:okF Tryz.prog 92 d92=true:=by kernel_rfl
def Z0g1:List J:=[oj 1 (.bx 80 0),oj 2 (.al 80 [Z5])]
def Z0g2:List J:=[oj 3 (.ld 5 true 1),oj 4 (.ld 5 true 1),oj 5 (.call 92 [3,4]),on_ (.st 5 2 5)]
def d123:FnD:=⟨6,[.cell 2 5 true],(.seq (.ops Z0g1) (.seq (.ops Z0g2) .ret))⟩
theorem Z0y4:okF Tryz.prog 123 d123=true:=by kernel_rfl
def Z0pf:List J:=[oj 2 (.al 80 [Z5])]
def Z0pg:List J:=[oj 3 (.mv 0),oj 4 (.bd [Z5] [(0,1,3)]),oj 5 (.call 155 [4]),on_ (.st 5 2 5)]
def d188:FnD:=⟨6,[.cell 2 5 true],(.seq (.ops Z0pf) (.seq (.ops Z0pg) .ret))⟩
theorem Z0zm:okF Tryz.prog 188 d188=true:=by kernel_rfl
def Z0jj:List J:=[oj 2 (.bx 80 0),oj 3 (.bx 22 1),oj 4 (.al 80 [Z5])]
def Z0jk:List J:=[oj 7 (.call 188 [(cu 1)]),oj 5 (.al 80 [Z5]),on_ (.st 5 5 7)]
def Z0jl:List J:=[oj 6 (.mv (ci 255))]
def Z0jm:List J:=[oj 8 (.mv 6),oj 9 (.bin .geq 8 (ci 0))]
def Z0jo:List J:=[oj 12 (.ld 5 true 5),oj 13 (.call 123 [12]),on_ (.st 5 5 13)]
def Z0jp:List J:=[oj 14 (.mv 6),oj 15 (.bin .quo 14 (ci 8)),oj 16 (.ia 32 1 3 15),oj 17 (.ld 1 false 16),oj 18 (.mv 6),oj 19 (.bin .rem 18 (ci 8)),oj 20 (.bin .shr 17 19),oj 21 (.bin .and 20 (.const (.int .u8 1))),oj 22 (.bin .eql 21 (.const (.int .u8 1)))]
def Z0jq:List J:=[oj 23 (.ld 5 true 5),oj 24 (.ld 5 true 2),oj 25 (.call 92 [23,24]),on_ (.st 5 5 25)]
def Z080:IC:=(.seq (.ops Z0jo) (.seq (.ops Z0jp) (.cond 22 (.ops Z0jq) .skip)))
def Z0jn:List J:=[oj 10 (.mv 6),oj 11 (.bin .sub 10 (ci 1)),oj 6 (.mv 11)]
def Z0al:IC:=(.seq (.seq (.ops Z0jm) (.cond 9 .skip (.exit 0))) (.seq (.block 1 Z080) (.ops Z0jn)))
def Z07z:IC:=(.loop Z0al)
def Z0jr:List J:=[oj 26 (.ld 5 true 5),on_ (.st 5 4 26)]
def d153:FnD:=⟨27,[.cell 4 5 true],(.seq (.ops Z0jj) (.seq (.ops Z0jk) (.seq (.seq (.ops Z0jl) (.block 0 Z07z)) (.seq (.ops Z0jr) .ret))))⟩
theorem Z0ys:okF Tryz.prog 153 d153=true:=by kernel_rfl
def Z0js:List J:=[oj 4 (.al 22 [.ints .u8 32 (List.replicate 32 0)])]
def Z0jt:List J:=[oj 5 (.al 22 [.ints .u8 32 (List.replicate 32 0)])]
def Z0ju:List J:=[oj 7 (.mv (ci 0))]
def Z0jv:List J:=[oj 8 (.bin .lss 7 (ci 32))]
def Z0jw:List J:=[oj 9 (.mv 7),oj 6 (.mv 9)]
def Z0jx:List J:=[oj 10 (.mv 6),oj 11 (.ia 32 1 5 10),on_ (.st 1 11 (.const (.int .u8 255)))]
def Z082:IC:=(.seq (.ops Z0jw) (.ops Z0jx))
def Z0jy:List J:=[oj 12 (.bin .add 7 (ci 1)),oj 7 (.mv 12)]
def Z0am:IC:=(.seq (.ops Z0jv) (.seq (.cond 8 .skip (.exit 0)) (.seq (.block 1 Z082) (.ops Z0jy))))
def Z081:IC:=(.loop Z0am)
def Z0jz:List J:=[oj 13 (.mv 0),oj 14 (.mv 1),oj 15 (.ia 32 1 5 (ci 0)),on_ (.st 1 15 13),oj 16 (.ia 32 1 5 (ci 31)),on_ (.st 1 16 14)]
def Z0k0:List J:=[oj 17 (.ld 32 true 5),on_ (.st 32 4 17)]
def d154:FnD:=⟨18,[.cell 4 32 true],(.seq (.ops Z0js) (.seq (.ops Z0jt) (.seq (.seq (.ops Z0ju) (.block 0 Z081)) (.seq (.ops Z0jz) (.seq (.ops Z0k0) .ret)))))⟩
theorem Z0yt:okF Tryz.prog 154 d154=true:=by kernel_rfl
def Z15e:List J:=[oj 1 (.bx 80 0),oj 2 (.al 80 [Z5])]
def Z15f:Sch:=(.p [1] (oj 4 (.call 154 [(.const (.int .u8 235)),(.const (.int .u8 127))])) (.q [0] (oj 3 (.ld 5 true 1)) (.p [2] (oj 5 (.call 153 [3,4])) (.e 3 (oe (.st 5 2 5)) .nil))))
def d90:FnD:=⟨6,[.cell 2 5 true],(.seq (.ops Z15e) (.seq (.draw Z15f [3]) .ret))⟩
theorem ok90:okF Tryz.prog 90 d90=true:=by kernel_rfl
def Z15g:List J:=[oj 1 (.bx 80 0),oj 2 (.al 22 [.ints .u8 32 (List.replicate 32 0)])]
def Z15h:List J:=[oj 8 (.ld 5 true 1),oj 9 (.call 155 [8]),on_ (.st 5 1 9)]
def Z15i:List J:=[oj 3 (.al 22 [.ints .u8 32 (List.replicate 32 0)])]
def Z15j:List J:=[oj 10 (.mv (ci 0))]
def Z15k:List J:=[oj 11 (.bin .lss 10 (ci 32))]
def Z15l:List J:=[oj 12 (.mv 10),oj 4 (.mv 12)]
def Z15m:List J:=[oj 13 (.mv 4),oj 14 (.bin .mul (ci 8) 13),oj 15 (.bin .quo 14 (ci 51)),oj 16 (.mv 4),oj 17 (.bin .mul (ci 8) 16),oj 18 (.bin .rem 17 (ci 51)),oj 5 (.mv 15),oj 6 (.mv 18)]
def Z15n:List J:=[oj 19 (.mv 5),oj 20 (.ia 5 1 1 19),oj 21 (.ld 1 false 20),oj 22 (.mv 6),oj 23 (.bin .shr 21 22),oj 7 (.mv 23)]
def Z15o:List J:=[oj 24 (.mv 6),oj 25 (.bin .gtr 24 (ci 43)),oj 26 (.mv 25),.lg false 26 29 none [.op ⟨some 27,(some (26,true)),.mv 5⟩,.op ⟨some 28,(some (26,true)),.bin .lss 27 (ci 4)⟩] 28]
def Z15p:List J:=[oj 30 (.mv 7),oj 31 (.mv 5),oj 32 (.bin .add 31 (ci 1)),oj 33 (.ia 5 1 1 32),oj 34 (.ld 1 false 33),oj 35 (.mv 6),oj 36 (.bin .sub (ci 51) 35),oj 37 (.bin .shl 34 36),oj 38 (.bin .or 30 37),oj 7 (.mv 38)]
def Z0tp:List J:=[oj 39 (.mv 4),oj 40 (.mv 7),oj 41 (.conv .u8 40),oj 42 (.ia 32 1 3 39),on_ (.st 1 42 41)]
def Z0wh:IC:=(.seq (.ops Z15l) (.seq (.ops Z15m) (.seq (.ops Z15n) (.seq (.seq (.ops Z15o) (.cond 29 (.ops Z15p) .skip)) (.ops Z0tp)))))
def Z0tq:List J:=[oj 43 (.bin .add 10 (ci 1)),oj 10 (.mv 43)]
def Z0xa:IC:=(.seq (.ops Z15k) (.seq (.cond 11 .skip (.exit 0)) (.seq (.block 1 Z0wh) (.ops Z0tq))))
def Z0wg:IC:=(.loop Z0xa)
def Z0tr:List J:=[oj 44 (.ld 32 true 3),on_ (.st 32 2 44)]
def d91:FnD:=⟨45,[.cell 2 32 true],(.seq (.ops Z15g) (.seq (.ops Z15h) (.seq (.ops Z15i) (.seq (.seq (.ops Z15j) (.block 0 Z0wg)) (.seq (.ops Z0tr) .ret)))))⟩
theorem ok91:okF Tryz.prog 91 d91=true:=by kernel_rfl
def Z160:List J:=[oj 1 (.bx 80 0),oj 2 (.mv (.const (.bool false)))]
def Z161:List J:=[oj 3 (.ld 5 true 1),oj 4 (.call 155 [3]),oj 5 (.idx 5 1 false 4 (ci 0)),oj 6 (.bin .and 5 (cu 1)),oj 7 (.bin .eql 6 (cu 1)),oj 2 (.mv 7)]
def d93:FnD:=⟨8,[.tmp 2],(.seq (.ops Z160) (.seq (.ops Z161) .ret))⟩
theorem ok93:okF Tryz.prog 93 d93=true:=by kernel_rfl
def Z12s:List J:=[oj 1 (.bx 82 0),oj 2 (.al 29 [.ints .u8 32 (List.replicate 32 0)])]
def Z12t:List J:=[oj 5 (.fa 10 1),oj 6 (.ld 5 true 5),oj 7 (.call 90 [6]),oj 3 (.al 80 [Z5]),on_ (.st 5 3 7)]
def Z12u:List J:=[oj 8 (.fa 5 1),oj 9 (.ld 5 true 8),oj 10 (.ld 5 true 3),oj 11 (.call 92 [9,10]),oj 12 (.call 91 [11]),oj 4 (.al 29 [.ints .u8 32 (List.replicate 32 0)]),on_ (.st 32 4 12)]
def Z12v:List J:=[oj 13 (.fa 0 1),oj 14 (.ld 5 true 13),oj 15 (.ld 5 true 3),oj 16 (.call 92 [14,15]),oj 17 (.call 93 [16])]
def Z12w:List J:=[oj 18 (.ia 32 1 4 (ci 31)),oj 19 (.ld 1 false 18),oj 20 (.bin .or 19 (.const (.int .u8 128))),oj 21 (.ia 32 1 4 (ci 31)),on_ (.st 1 21 20)]
def Z12x:List J:=[oj 22 (.ld 32 true 4),on_ (.st 32 2 22)]
def d50:FnD:=⟨23,[.cell 2 32 true],(.seq (.ops Z12s) (.seq (.ops Z12t) (.seq (.ops Z12u) (.seq (.seq (.ops Z12v) (.cond 17 (.ops Z12w) .skip)) (.seq (.ops Z12x) .ret)))))⟩
theorem ok50:okF Tryz.prog 50 d50=true:=by kernel_rfl
def Z0g3:List J:=[oj 0 (.al 80 [Z5])]
def Z0g4:List J:=[oj 1 (.bd [Z5] [(0,1,(cu 1))]),on_ (.st 5 0 1)]
def d124:FnD:=⟨2,[.cell 0 5 true],(.seq (.ops Z0g3) (.seq (.ops Z0g4) .ret))⟩
theorem Z0y5:okF Tryz.prog 124 d124=true:=by kernel_rfl
def Z0hc:List J:=[oj 0 (.al 82 [Z5,Z5,Z5,Z5])]
def Z0hd:List J:=[oj 1 (.call 124 []),oj 2 (.call 124 []),oj 3 (.bd [Z5,Z5,Z5,Z5] [(5,5,1),(10,5,2)]),on_ (.st 20 0 3)]
def d134:FnD:=⟨4,[.cell 0 20 true],(.seq (.ops Z0hc) (.seq (.ops Z0hd) .ret))⟩
theorem Z0yc:okF Tryz.prog 134 d134=true:=by kernel_rfl
def Z0g7:List J:=[oj 2 (.bx 80 0),oj 3 (.bx 80 1),oj 4 (.al 80 [Z5])]
def Z0g8:Sch:=(.q [0] (oj 6 (.ld 5 true 2)) (.p [1] (oj 7 (.call 156 [6])) (.q [2] (oj 8 (.ld 5 true 3)) (.p [3] (oj 9 (.call 156 [8])) (.e 4 (oe (.st 5 2 7)) (.e 5 (oe (.st 5 3 9)) .nil))))))
def Z0g9:List J:=[oj 10 (.mv (ci 0))]
def Z0ga:List J:=[oj 11 (.bin .lss 10 (ci 5))]
def Z0gb:List J:=[oj 12 (.mv 10),oj 5 (.mv 12)]
def Z0gc:Sch:=(.p [0] (oj 13 (.mv 5)) (.p [1] (oj 14 (.ia 5 1 2 13)) (.p [3] (oj 16 (.mv 5)) (.p [4] (oj 17 (.ia 5 1 3 16)) (.q [2] (oj 15 (.ld 1 false 14)) (.q [5] (oj 18 (.ld 1 false 17)) (.p [6] (oj 19 (.bin .add 15 18)) (.p [7] (oj 20 (.ia 5 1 2 13)) (.e 8 (oe (.st 1 20 19)) .nil)))))))))
def Z07k:IC:=(.seq (.ops Z0gb) (.draw Z0gc [8]))
def Z0gd:List J:=[oj 21 (.bin .add 10 (ci 1)),oj 10 (.mv 21)]
def Z0ad:IC:=(.seq (.ops Z0ga) (.seq (.cond 11 .skip (.exit 0)) (.seq (.block 1 Z07k) (.ops Z0gd))))
def Z07j:IC:=(.loop Z0ad)
def Z0ge:List J:=[oj 22 (.ld 5 true 2),oj 23 (.call 155 [22]),on_ (.st 5 4 23)]
def d127:FnD:=⟨24,[.cell 4 5 true],(.seq (.ops Z0g7) (.seq (.draw Z0g8 [4,5]) (.seq (.seq (.ops Z0g9) (.block 0 Z07j)) (.seq (.ops Z0ge) .ret))))⟩
theorem Z0y7:okF Tryz.prog 127 d127=true:=by kernel_rfl
def Z0gf:List J:=[oj 1 (.bx 80 0),oj 2 (.al 80 [Z5])]
def Z0gg:List J:=[oj 5 (.ld 5 true 1),oj 6 (.call 155 [5]),on_ (.st 5 1 6)]
def Z0gh:List J:=[oj 7 (.ia 5 1 1 (ci 0)),oj 8 (.ld 1 false 7),oj 9 (.bin .sub (cu 4503599627370458) 8),oj 10 (.bd [Z5] [(0,1,9)]),oj 3 (.al 80 [Z5]),on_ (.st 5 3 10)]
def Z0gi:List J:=[oj 4 (.mv (ci 1))]
def Z0gj:List J:=[oj 11 (.mv 4),oj 12 (.bin .lss 11 (ci 5))]
def Z0gl:List J:=[oj 15 (.mv 4),oj 16 (.mv 4),oj 17 (.ia 5 1 1 16),oj 18 (.ld 1 false 17),oj 19 (.bin .sub (cu 4503599627370494) 18),oj 20 (.ia 5 1 3 15),on_ (.st 1 20 19)]
def Z07m:IC:=(.ops Z0gl)
def Z0gk:List J:=[oj 13 (.mv 4),oj 14 (.bin .add 13 (ci 1)),oj 4 (.mv 14)]
def Z0ae:IC:=(.seq (.seq (.ops Z0gj) (.cond 12 .skip (.exit 0))) (.seq (.block 1 Z07m) (.ops Z0gk)))
def Z07l:IC:=(.loop Z0ae)
def Z0gm:List J:=[oj 21 (.ld 5 true 3),oj 22 (.call 155 [21]),on_ (.st 5 2 22)]
def d130:FnD:=⟨23,[.cell 2 5 true],(.seq (.ops Z0gf) (.seq (.ops Z0gg) (.seq (.ops Z0gh) (.seq (.seq (.ops Z0gi) (.block 0 Z07l)) (.seq (.ops Z0gm) .ret)))))⟩
theorem Z0y8:okF Tryz.prog 130 d130=true:=by kernel_rfl
def Z0g5:List J:=[oj 2 (.bx 80 0),oj 3 (.bx 80 1),oj 4 (.al 80 [Z5])]
def Z0g6:Sch:=(.q [0] (oj 5 (.ld 5 true 2)) (.q [1] (oj 6 (.ld 5 true 3)) (.p [2] (oj 7 (.call 130 [6])) (.p [3] (oj 8 (.call 127 [5,7])) (.e 4 (oe (.st 5 4 8)) .nil)))))
def d126:FnD:=⟨9,[.cell 4 5 true],(.seq (.ops Z0g5) (.seq (.draw Z0g6 [4]) .ret))⟩
theorem Z0y6:okF Tryz.prog 126 d126=true:=by kernel_rfl
def Z0ph:List J:=[oj 4 (.bx 80 0),oj 5 (.bx 80 1),oj 6 (.bx 80 2),oj 7 (.bx 80 3),oj 8 (.al 82 [Z5,Z5,Z5,Z5])]
def Z0pi:Sch:=(.q [0] (oj 9 (.ld 5 true 4)) (.q [1] (oj 10 (.ld 5 true 5)) (.p [2] (oj 11 (.call 92 [9,10])) (.q [3] (oj 12 (.ld 5 true 6)) (.q [4] (oj 13 (.ld 5 true 7)) (.p [5] (oj 14 (.call 92 [12,13])) (.q [6] (oj 15 (.ld 5 true 5)) (.q [7] (oj 16 (.ld 5 true 6)) (.p [8] (oj 17 (.call 92 [15,16])) (.q [9] (oj 18 (.ld 5 true 4)) (.q [10] (oj 19 (.ld 5 true 7)) (.p [11] (oj 20 (.call 92 [18,19])) (.p [12] (oj 21 (.bd [Z5,Z5,Z5,Z5] [(0,5,11),(5,5,14),(10,5,17),(15,5,20)])) (.e 13 (oe (.st 20 8 21)) .nil))))))))))))))
def d191:FnD:=⟨22,[.cell 8 20 true],(.seq (.ops Z0ph) (.seq (.draw Z0pi [13]) .ret))⟩
theorem Z0zn:okF Tryz.prog 191 d191=true:=by kernel_rfl
def Z0pj:List J:=[oj 0 (.al 80 [Z5])]
def Z0pk:List J:=[oj 1 (.bd [Z5] [(0,1,(cu 1859910466990425)),(1,1,(cu 932731440258426)),(2,1,(cu 1072319116312658)),(3,1,(cu 1815898335770999)),(4,1,(cu 633789495995903))]),on_ (.st 5 0 1)]
def d192:FnD:=⟨2,[.cell 0 5 true],(.seq (.ops Z0pj) (.seq (.ops Z0pk) .ret))⟩
theorem Z0zo:okF Tryz.prog 192 d192=true:=by kernel_rfl
def Z0hn:List J:=[oj 2 (.bx 82 0),oj 3 (.bx 82 1),oj 4 (.al 82 [Z5,Z5,Z5,Z5])]
def Z0ho:Sch:=(.p [0] (oj 10 (.fa 5 2)) (.p [2] (oj 12 (.fa 0 2)) (.p [5] (oj 15 (.fa 5 3)) (.p [7] (oj 17 (.fa 0 3)) (.q [1] (oj 11 (.ld 5 true 10)) (.q [3] (oj 13 (.ld 5 true 12)) (.p [4] (oj 14 (.call 126 [11,13])) (.q [6] (oj 16 (.ld 5 true 15)) (.q [8] (oj 18 (.ld 5 true 17)) (.p [9] (oj 19 (.call 126 [16,18])) (.p [10] (oj 20 (.call 92 [14,19])) (.e 11 (oi 5 (.al 80 [Z5])) (.e 12 (oe (.st 5 5 20)) .nil)))))))))))))
def Z0hp:Sch:=(.p [0] (oj 21 (.fa 5 2)) (.p [2] (oj 23 (.fa 0 2)) (.p [5] (oj 26 (.fa 5 3)) (.p [7] (oj 28 (.fa 0 3)) (.q [1] (oj 22 (.ld 5 true 21)) (.q [3] (oj 24 (.ld 5 true 23)) (.p [4] (oj 25 (.call 127 [22,24])) (.q [6] (oj 27 (.ld 5 true 26)) (.q [8] (oj 29 (.ld 5 true 28)) (.p [9] (oj 30 (.call 127 [27,29])) (.p [10] (oj 31 (.call 92 [25,30])) (.e 11 (oi 6 (.al 80 [Z5])) (.e 12 (oe (.st 5 6 31)) .nil)))))))))))))
def Z0hq:List J:=[oj 32 (.call 192 []),oj 7 (.al 80 [Z5]),on_ (.st 5 7 32)]
def Z0hr:Sch:=(.p [0] (oj 33 (.fa 15 2)) (.p [4] (oj 37 (.fa 15 3)) (.q [1] (oj 34 (.ld 5 true 33)) (.q [2] (oj 35 (.ld 5 true 7)) (.p [3] (oj 36 (.call 92 [34,35])) (.q [5] (oj 38 (.ld 5 true 37)) (.p [6] (oj 39 (.call 92 [36,38])) (.e 7 (oi 8 (.al 80 [Z5])) (.e 8 (oe (.st 5 8 39)) .nil)))))))))
def Z0hs:Sch:=(.p [0] (oj 40 (.fa 10 2)) (.p [2] (oj 42 (.fa 10 2)) (.p [5] (oj 45 (.fa 10 3)) (.q [1] (oj 41 (.ld 5 true 40)) (.q [3] (oj 43 (.ld 5 true 42)) (.p [4] (oj 44 (.call 127 [41,43])) (.q [6] (oj 46 (.ld 5 true 45)) (.p [7] (oj 47 (.call 92 [44,46])) (.e 8 (oi 9 (.al 80 [Z5])) (.e 9 (oe (.st 5 9 47)) .nil))))))))))
def Z0ht:Sch:=(.q [0] (oj 48 (.ld 5 true 6)) (.q [1] (oj 49 (.ld 5 true 5)) (.p [2] (oj 50 (.call 126 [48,49])) (.q [3] (oj 51 (.ld 5 true 9)) (.q [4] (oj 52 (.ld 5 true 8)) (.p [5] (oj 53 (.call 126 [51,52])) (.q [6] (oj 54 (.ld 5 true 9)) (.q [7] (oj 55 (.ld 5 true 8)) (.p [8] (oj 56 (.call 127 [54,55])) (.q [9] (oj 57 (.ld 5 true 6)) (.q [10] (oj 58 (.ld 5 true 5)) (.p [11] (oj 59 (.call 127 [57,58])) (.p [12] (oj 60 (.call 191 [50,53,56,59])) (.e 13 (oe (.st 20 4 60)) .nil))))))))))))))
def d136:FnD:=⟨61,[.cell 4 20 true],(.seq (.ops Z0hn) (.seq (.draw Z0ho [12]) (.seq (.draw Z0hp [12]) (.seq (.ops Z0hq) (.seq (.draw Z0hr [8]) (.seq (.draw Z0hs [9]) (.seq (.draw Z0ht [13]) .ret)))))))⟩
theorem Z0ye:okF Tryz.prog 136 d136=true:=by kernel_rfl
def Z0h3:List J:=[oj 1 (.bx 82 0),oj 2 (.al 166 [.rows 20 16 (fun _=>cells [Z5,Z5,Z5,Z5])])]
def Z0h4:List J:=[oj 3 (.al 166 [.rows 20 16 (fun _=>cells [Z5,Z5,Z5,Z5])])]
def Z0h5:List J:=[oj 5 (.call 134 []),oj 6 (.ia 16 20 3 (ci 0)),on_ (.st 20 6 5)]
def Z0h6:List J:=[oj 7 (.mv (ci 0))]
def Z0h7:List J:=[oj 8 (.bin .lss 7 (ci 15))]
def Z0h8:List J:=[oj 9 (.mv 7),oj 4 (.mv 9)]
def Z0h9:Sch:=(.p [0] (oj 10 (.mv 4)) (.p [1] (oj 11 (.bin .add 10 (ci 1))) (.p [2] (oj 12 (.mv 4)) (.p [3] (oj 13 (.ia 16 20 3 12)) (.q [4] (oj 14 (.ld 20 true 13)) (.q [5] (oj 15 (.ld 20 true 1)) (.p [6] (oj 16 (.call 136 [14,15])) (.p [7] (oj 17 (.ia 16 20 3 11)) (.e 8 (oe (.st 20 17 16)) .nil)))))))))
def Z07s:IC:=(.seq (.ops Z0h8) (.draw Z0h9 [8]))
def Z0ha:List J:=[oj 18 (.bin .add 7 (ci 1)),oj 7 (.mv 18)]
def Z0ah:IC:=(.seq (.ops Z0h7) (.seq (.cond 8 .skip (.exit 0)) (.seq (.block 1 Z07s) (.ops Z0ha))))
def Z07r:IC:=(.loop Z0ah)
def Z0hb:List J:=[oj 19 (.ld 320 true 3),on_ (.st 320 2 19)]
def d133:FnD:=⟨20,[.cell 2 320 true],(.seq (.ops Z0h3) (.seq (.ops Z0h4) (.seq (.ops Z0h5) (.seq (.seq (.ops Z0h6) (.block 0 Z07r)) (.seq (.ops Z0hb) .ret)))))⟩
theorem Z0yb:okF Tryz.prog 133 d133=true:=by kernel_rfl
def Z0he:List J:=[oj 1 (.bx 82 0),oj 2 (.al 82 [Z5,Z5,Z5,Z5])]
def Z0hf:List J:=[oj 10 (.fa 0 1),oj 11 (.ld 5 true 10),oj 12 (.call 123 [11]),oj 3 (.al 80 [Z5]),on_ (.st 5 3 12)]
def Z0hg:List J:=[oj 13 (.fa 5 1),oj 14 (.ld 5 true 13),oj 15 (.call 123 [14]),oj 4 (.al 80 [Z5]),on_ (.st 5 4 15)]
def Z0hh:List J:=[oj 16 (.fa 10 1),oj 17 (.ld 5 true 16),oj 18 (.call 123 [17]),oj 5 (.al 80 [Z5]),on_ (.st 5 5 18)]
def Z0hi:List J:=[oj 19 (.ld 5 true 3),oj 20 (.ld 5 true 4),oj 21 (.call 127 [19,20]),oj 6 (.al 80 [Z5]),on_ (.st 5 6 21)]
def Z0hj:Sch:=(.p [1] (oj 23 (.fa 0 1)) (.p [3] (oj 25 (.fa 5 1)) (.q [0] (oj 22 (.ld 5 true 6)) (.q [2] (oj 24 (.ld 5 true 23)) (.q [4] (oj 26 (.ld 5 true 25)) (.p [5] (oj 27 (.call 127 [24,26])) (.p [6] (oj 28 (.call 123 [27])) (.p [7] (oj 29 (.call 126 [22,28])) (.e 8 (oi 7 (.al 80 [Z5])) (.e 9 (oe (.st 5 7 29)) .nil))))))))))
def Z0hk:List J:=[oj 30 (.ld 5 true 3),oj 31 (.ld 5 true 4),oj 32 (.call 126 [30,31]),oj 8 (.al 80 [Z5]),on_ (.st 5 8 32)]
def Z0hl:Sch:=(.q [0] (oj 33 (.ld 5 true 5)) (.q [1] (oj 34 (.ld 5 true 5)) (.p [2] (oj 35 (.call 127 [33,34])) (.q [3] (oj 36 (.ld 5 true 8)) (.p [4] (oj 37 (.call 127 [35,36])) (.e 5 (oi 9 (.al 80 [Z5])) (.e 6 (oe (.st 5 9 37)) .nil)))))))
def Z0hm:List J:=[oj 38 (.ld 5 true 7),oj 39 (.ld 5 true 9),oj 40 (.ld 5 true 8),oj 41 (.ld 5 true 6),oj 42 (.call 191 [38,39,40,41]),on_ (.st 20 2 42)]
def d135:FnD:=⟨43,[.cell 2 20 true],(.seq (.ops Z0he) (.seq (.ops Z0hf) (.seq (.ops Z0hg) (.seq (.ops Z0hh) (.seq (.ops Z0hi) (.seq (.draw Z0hj [9]) (.seq (.ops Z0hk) (.seq (.draw Z0hl [6]) (.seq (.ops Z0hm) .ret)))))))))⟩
theorem Z0yd:okF Tryz.prog 135 d135=true:=by kernel_rfl
def Z0hu:List J:=[oj 2 (.bx 74 0),oj 4 (.mv (.const (.int .u8 0)))]
def Z0hv:List J:=[oj 5 (.mv 1),oj 6 (.bin .quo 5 (ci 2)),oj 7 (.bin .sub (ci 31) 6),oj 8 (.ia 32 1 2 7),oj 9 (.ld 1 false 8),oj 10 (.mv 1),oj 11 (.bin .rem 10 (ci 2)),oj 12 (.bin .sub (ci 1) 11),oj 13 (.bin .mul (ci 4) 12),oj 14 (.bin .shr 9 13),oj 15 (.bin .and 14 (.const (.int .u8 15))),oj 4 (.mv 15)]
def d137:FnD:=⟨16,[.tmp 4],(.seq (.ops Z0hu) (.seq (.ops Z0hv) .ret))⟩
theorem Z0yf:okF Tryz.prog 137 d137=true:=by kernel_rfl
def Z162:List J:=[oj 2 (.bx 74 0),oj 3 (.bx 82 1),oj 4 (.al 82 [Z5,Z5,Z5,Z5])]
def Z163:List J:=[oj 8 (.ld 20 true 3),oj 9 (.call 133 [8]),oj 5 (.al 166 [.rows 20 16 (fun _=>cells [Z5,Z5,Z5,Z5])]),on_ (.st 320 5 9)]
def Z164:List J:=[oj 10 (.call 134 []),oj 6 (.al 82 [Z5,Z5,Z5,Z5]),on_ (.st 20 6 10)]
def Z165:List J:=[oj 11 (.mv (ci 0))]
def Z166:List J:=[oj 12 (.bin .lss 11 (ci 64))]
def Z167:List J:=[oj 13 (.mv 11),oj 7 (.mv 13)]
def Z168:List J:=[oj 14 (.mv (ci 0))]
def Z169:List J:=[oj 15 (.bin .lss 14 (ci 4))]
def Z16a:List J:=[oj 16 (.ld 20 true 6),oj 17 (.call 135 [16]),on_ (.st 20 6 17)]
def Z0wr:IC:=(.ops Z16a)
def Z16b:List J:=[oj 18 (.bin .add 14 (ci 1)),oj 14 (.mv 18)]
def Z0xf:IC:=(.seq (.ops Z169) (.seq (.cond 15 .skip (.exit 2)) (.seq (.block 3 Z0wr) (.ops Z16b))))
def Z0wq:IC:=(.loop Z0xf)
def Z0ub:Sch:=(.p [2] (oj 21 (.mv 7)) (.q [0] (oj 19 (.ld 20 true 6)) (.q [1] (oj 20 (.ld 32 true 2)) (.p [3] (oj 22 (.call 137 [20,21])) (.p [4] (oj 23 (.ia 16 20 5 22)) (.q [5] (oj 24 (.ld 20 true 23)) (.p [6] (oj 25 (.call 136 [19,24])) (.e 7 (oe (.st 20 6 25)) .nil))))))))
def Z0wp:IC:=(.seq (.ops Z167) (.seq (.seq (.ops Z168) (.block 2 Z0wq)) (.draw Z0ub [7])))
def Z0uc:List J:=[oj 26 (.bin .add 11 (ci 1)),oj 11 (.mv 26)]
def Z0xe:IC:=(.seq (.ops Z166) (.seq (.cond 12 .skip (.exit 0)) (.seq (.block 1 Z0wp) (.ops Z0uc))))
def Z0wo:IC:=(.loop Z0xe)
def Z0ud:List J:=[oj 27 (.ld 20 true 6),on_ (.st 20 4 27)]
def d94:FnD:=⟨28,[.cell 4 20 true],(.seq (.ops Z162) (.seq (.ops Z163) (.seq (.ops Z164) (.seq (.seq (.ops Z165) (.block 0 Z0wo)) (.seq (.ops Z0ud) .ret)))))⟩
theorem ok94:okF Tryz.prog 94 d94=true:=by kernel_rfl
def Z0fr:List J:=[oj 1 (.bx 22 0),oj 2 (.al 80 [Z5])]
def Z0fs:List J:=[oj 3 (.al 80 [Z5])]
def Z0ft:List J:=[oj 8 (.ld 32 true 1),oj 9 (.mv (ci 0))]
def Z0fu:List J:=[oj 10 (.bin .lss 9 (ci 32))]
def Z0fv:List J:=[oj 11 (.mv 9),oj 12 (.idx 32 1 false 8 9),oj 4 (.mv 11),oj 5 (.mv 12)]
def Z0fw:List J:=[oj 13 (.mv 4),oj 14 (.bin .eql 13 (ci 31))]
def Z0fx:List J:=[oj 15 (.mv 5),oj 16 (.bin .and 15 (.const (.int .u8 127))),oj 5 (.mv 16)]
def Z0fy:List J:=[oj 17 (.mv 4),oj 18 (.bin .mul (ci 8) 17),oj 19 (.bin .quo 18 (ci 51)),oj 20 (.mv 4),oj 21 (.bin .mul (ci 8) 20),oj 22 (.bin .rem 21 (ci 51)),oj 6 (.mv 19),oj 7 (.mv 22)]
def Z0fz:Sch:=(.p [0] (oj 23 (.mv 6)) (.p [1] (oj 24 (.ia 5 1 3 23)) (.p [3] (oj 26 (.mv 5)) (.p [4] (oj 27 (.conv .u64 26)) (.p [5] (oj 28 (.mv 7)) (.p [6] (oj 29 (.bin .shl 27 28)) (.p [7] (oj 30 (.bin .and 29 (cu 2251799813685247))) (.q [2] (oj 25 (.ld 1 false 24)) (.p [8] (oj 31 (.bin .or 25 30)) (.p [9] (oj 32 (.ia 5 1 3 23)) (.e 10 (oe (.st 1 32 31)) .nil)))))))))))
def Z0g0:List J:=[oj 33 (.mv 7),oj 34 (.bin .gtr 33 (ci 43)),oj 35 (.mv 34),.lg false 35 38 none [.op ⟨some 36,(some (35,true)),.mv 6⟩,.op ⟨some 37,(some (35,true)),.bin .lss 36 (ci 4)⟩] 37]
def Z03i:Sch:=(.p [0] (oj 39 (.mv 6)) (.p [1] (oj 40 (.bin .add 39 (ci 1))) (.p [2] (oj 41 (.ia 5 1 3 40)) (.p [4] (oj 43 (.mv 5)) (.p [5] (oj 44 (.conv .u64 43)) (.p [6] (oj 45 (.mv 7)) (.p [7] (oj 46 (.bin .sub (ci 51) 45)) (.p [8] (oj 47 (.bin .shr 44 46)) (.q [3] (oj 42 (.ld 1 false 41)) (.p [9] (oj 48 (.bin .or 42 47)) (.p [10] (oj 49 (.ia 5 1 3 40)) (.e 11 (oe (.st 1 49 48)) .nil))))))))))))
def Z07i:IC:=(.seq (.ops Z0fv) (.seq (.seq (.ops Z0fw) (.cond 14 (.ops Z0fx) .skip)) (.seq (.ops Z0fy) (.seq (.draw Z0fz [10]) (.seq (.ops Z0g0) (.cond 38 (.draw Z03i [11]) .skip))))))
def Z03j:List J:=[oj 50 (.bin .add 9 (ci 1)),oj 9 (.mv 50)]
def Z0ac:IC:=(.seq (.ops Z0fu) (.seq (.cond 10 .skip (.exit 0)) (.seq (.block 1 Z07i) (.ops Z03j))))
def Z07h:IC:=(.loop Z0ac)
def Z03k:List J:=[oj 51 (.ld 5 true 3),oj 52 (.call 155 [51]),on_ (.st 5 2 52)]
def d122:FnD:=⟨53,[.cell 2 5 true],(.seq (.ops Z0fr) (.seq (.ops Z0fs) (.seq (.seq (.ops Z0ft) (.block 0 Z07h)) (.seq (.ops Z03k) .ret))))⟩
theorem Z0y3:okF Tryz.prog 122 d122=true:=by kernel_rfl
def Z16c:List J:=[oj 0 (.al 82 [Z5,Z5,Z5,Z5])]
def Z16d:List J:=[oj 5 (.bd [.ints .u8 32 (List.replicate 32 0)] [(0,1,(.const (.int .u8 26))),(1,1,(.const (.int .u8 213))),(2,1,(.const (.int .u8 37))),(3,1,(.const (.int .u8 143))),(4,1,(.const (.int .u8 96))),(5,1,(.const (.int .u8 45))),(6,1,(.const (.int .u8 86))),(7,1,(.const (.int .u8 201))),(8,1,(.const (.int .u8 178))),(9,1,(.const (.int .u8 167))),(10,1,(.const (.int .u8 37))),(11,1,(.const (.int .u8 149))),(12,1,(.const (.int .u8 96))),(13,1,(.const (.int .u8 199))),(14,1,(.const (.int .u8 44))),(15,1,(.const (.int .u8 105))),(16,1,(.const (.int .u8 92))),(17,1,(.const (.int .u8 220))),(18,1,(.const (.int .u8 214))),(19,1,(.const (.int .u8 253))),(20,1,(.const (.int .u8 49))),(21,1,(.const (.int .u8 226))),(22,1,(.const (.int .u8 164))),(23,1,(.const (.int .u8 192))),(24,1,(.const (.int .u8 254))),(25,1,(.const (.int .u8 83))),(26,1,(.const (.int .u8 110))),(27,1,(.const (.int .u8 205))),(28,1,(.const (.int .u8 211))),(29,1,(.const (.int .u8 54))),(30,1,(.const (.int .u8 105))),(31,1,(.const (.int .u8 33)))]),oj 6 (.call 122 [5]),oj 1 (.al 80 [Z5]),on_ (.st 5 1 6)]
def Z16e:List J:=[oj 7 (.bd [.ints .u8 32 (List.replicate 32 0)] [(0,1,(.const (.int .u8 88)))]),oj 2 (.al 22 [.ints .u8 32 (List.replicate 32 0)]),on_ (.st 32 2 7)]
def Z16f:List J:=[oj 8 (.mv (ci 0))]
def Z16g:List J:=[oj 9 (.bin .lss 8 (ci 31))]
def Z16h:List J:=[oj 10 (.mv 8),oj 3 (.mv 10)]
def Z16i:List J:=[oj 11 (.mv 3),oj 12 (.bin .add 11 (ci 1)),oj 13 (.ia 32 1 2 12),on_ (.st 1 13 (.const (.int .u8 102)))]
def Z0wt:IC:=(.seq (.ops Z16h) (.ops Z16i))
def Z16j:List J:=[oj 14 (.bin .add 8 (ci 1)),oj 8 (.mv 14)]
def Z0xg:IC:=(.seq (.ops Z16g) (.seq (.cond 9 .skip (.exit 0)) (.seq (.block 1 Z0wt) (.ops Z16j))))
def Z0ws:IC:=(.loop Z0xg)
def Z16k:List J:=[oj 15 (.ld 32 true 2),oj 16 (.call 122 [15]),oj 4 (.al 80 [Z5]),on_ (.st 5 4 16)]
def Z16l:Sch:=(.p [2] (oj 19 (.call 124 [])) (.q [0] (oj 17 (.ld 5 true 1)) (.q [1] (oj 18 (.ld 5 true 4)) (.q [3] (oj 20 (.ld 5 true 1)) (.q [4] (oj 21 (.ld 5 true 4)) (.p [5] (oj 22 (.call 92 [20,21])) (.p [6] (oj 23 (.bd [Z5,Z5,Z5,Z5] [(0,5,17),(5,5,18),(10,5,19),(15,5,22)])) (.e 7 (oe (.st 20 0 23)) .nil))))))))
def d95:FnD:=⟨24,[.cell 0 20 true],(.seq (.ops Z16c) (.seq (.ops Z16d) (.seq (.ops Z16e) (.seq (.seq (.ops Z16f) (.block 0 Z0ws)) (.seq (.ops Z16k) (.seq (.draw Z16l [7]) .ret))))))⟩
theorem ok95:okF Tryz.prog 95 d95=true:=by kernel_rfl
def Z12y:List J:=[oj 1 (.bx 74 0),oj 2 (.al 82 [Z5,Z5,Z5,Z5])]
def Z12z:Sch:=(.p [1] (oj 4 (.call 95 [])) (.q [0] (oj 3 (.ld 32 true 1)) (.p [2] (oj 5 (.call 94 [3,4])) (.e 3 (oe (.st 20 2 5)) .nil))))
def d51:FnD:=⟨6,[.cell 2 20 true],(.seq (.ops Z12y) (.seq (.draw Z12z [3]) .ret))⟩
theorem ok51:okF Tryz.prog 51 d51=true:=by kernel_rfl
def Z0kr:List J:=[oj 4 (.mv (cu 0)),oj 5 (.mv (.const (.bool false)))]
def Z0ks:List J:=[oj 6 (.mv (cu 0))]
def Z0kt:List J:=[oj 10 (.mv 0),oj 11 (.mv 1),oj 12 (.call 203 [10,11]),oj 7 (.mv 12)]
def Z0ku:List J:=[oj 13 (.mv 7),oj 14 (.len 13),oj 15 (.mv (ci 0))]
def Z0kv:List J:=[oj 16 (.bin .lss 15 14)]
def Z0kw:List J:=[oj 17 (.mv 15),oj 18 (.ias 1 13 15),oj 19 (.ld 1 false 18),oj 8 (.mv 17),oj 9 (.mv 19)]
def Z0kx:List J:=[oj 20 (.mv 6),oj 21 (.mv 9),oj 22 (.conv .u64 21),oj 23 (.mv 8),oj 24 (.bin .mul (ci 8) 23),oj 25 (.bin .shl 22 24),oj 26 (.bin .or 20 25),oj 6 (.mv 26)]
def Z08c:IC:=(.seq (.ops Z0kw) (.ops Z0kx))
def Z0ky:List J:=[oj 27 (.bin .add 15 (ci 1)),oj 15 (.mv 27)]
def Z0ar:IC:=(.seq (.ops Z0kv) (.seq (.cond 16 .skip (.exit 0)) (.seq (.block 1 Z08c) (.ops Z0ky))))
def Z08b:IC:=(.loop Z0ar)
def Z0kz:List J:=[oj 28 (.mv 6),oj 29 (.mv 7),oj 30 (.isn true 29),oj 4 (.mv 28),oj 5 (.mv 30)]
def d160:FnD:=⟨31,[.tmp 4,.tmp 5],(.seq (.ops Z0kr) (.seq (.ops Z0ks) (.seq (.ops Z0kt) (.seq (.seq (.ops Z0ku) (.block 0 Z08b)) (.seq (.ops Z0kz) .ret)))))⟩
theorem Z0yy:okF Tryz.prog 160 d160=true:=by kernel_rfl
def Z0re:List J:=[oj 2 (.mv (.const (.slice none 0 0)))]
def Z0rf:List J:=[oj 5 (.call 183 []),oj 6 (.bin .quo 5 (ci 8)),oj 7 (.mks 5 1 [.one (.int .u8 0)] 6 6),oj 3 (.mv 7)]
def Z0rg:List J:=[oj 8 (.mv 3),oj 9 (.len 8),oj 10 (.mv (ci 0))]
def Z0rh:List J:=[oj 11 (.bin .lss 10 9)]
def Z0ri:List J:=[oj 12 (.mv 10),oj 4 (.mv 12)]
def Z0rj:List J:=[oj 13 (.mv 3),oj 14 (.mv 4),oj 15 (.mv 0),oj 16 (.conv .u8 15),oj 17 (.ias 1 13 14),on_ (.st 1 17 16)]
def Z0rk:List J:=[oj 18 (.mv 0),oj 19 (.bin .shr 18 (cu 8)),oj 0 (.mv 19)]
def Z09i:IC:=(.seq (.ops Z0ri) (.seq (.ops Z0rj) (.ops Z0rk)))
def Z0rl:List J:=[oj 20 (.bin .add 10 (ci 1)),oj 10 (.mv 20)]
def Z0bc:IC:=(.seq (.ops Z0rh) (.seq (.cond 11 .skip (.exit 0)) (.seq (.block 1 Z09i) (.ops Z0rl))))
def Z09h:IC:=(.loop Z0bc)
def Z0rm:List J:=[oj 21 (.mv 3),oj 2 (.mv 21)]
def d204:FnD:=⟨22,[.tmp 2],(.seq (.ops Z0re) (.seq (.ops Z0rf) (.seq (.seq (.ops Z0rg) (.block 0 Z09h)) (.seq (.ops Z0rm) .ret))))⟩
theorem Z100:okF Tryz.prog 204 d204=true:=by kernel_rfl
def Z0l0:List J:=[oj 1 (.bx 162 0),oj 2 (.al 74 [.ints .u8 32 (List.replicate 32 0)])]
def Z0l1:List J:=[oj 3 (.al 74 [.ints .u8 32 (List.replicate 32 0)])]
def Z0l2:List J:=[oj 6 (.ld 4 true 1),oj 7 (.mv (ci 0))]
def Z0l3:List J:=[oj 8 (.bin .lss 7 (ci 4))]
def Z0l4:List J:=[oj 9 (.mv 7),oj 10 (.idx 4 1 false 6 7),oj 4 (.mv 9),oj 5 (.mv 10)]
def Z0l5:Sch:=(.p [0] (oj 11 (.mv 4)) (.p [1] (oj 12 (.bin .mul (ci 8) 11)) (.p [2] (oj 13 (.sla 32 1 3 (some 12) none none)) (.p [3] (oj 14 (.mv 5)) (.e 4 (oi 15 (.call 204 [14])) (.e 5 (oi 16 (.cpy 1 13 15)) .nil))))))
def Z08e:IC:=(.seq (.ops Z0l4) (.draw Z0l5 [5]))
def Z0l6:List J:=[oj 17 (.bin .add 7 (ci 1)),oj 7 (.mv 17)]
def Z0as:IC:=(.seq (.ops Z0l3) (.seq (.cond 8 .skip (.exit 0)) (.seq (.block 1 Z08e) (.ops Z0l6))))
def Z08d:IC:=(.loop Z0as)
def Z0l7:List J:=[oj 18 (.ld 32 true 3),on_ (.st 32 2 18)]
def d161:FnD:=⟨19,[.cell 2 32 true],(.seq (.ops Z0l0) (.seq (.ops Z0l1) (.seq (.seq (.ops Z0l2) (.block 0 Z08d)) (.seq (.ops Z0l7) .ret))))⟩
theorem Z0yz:okF Tryz.prog 161 d161=true:=by kernel_rfl
def Z0gn:List J:=[oj 2 (.bx 162 0),oj 3 (.bx 162 1),oj 4 (.al 162 [.ints .u64 4 (List.replicate 4 0)]),oj 5 (.mv (cu 0))]
def Z0go:List J:=[oj 6 (.mv (cu 0))]
def Z0gp:List J:=[oj 8 (.mv (ci 0))]
def Z0gq:List J:=[oj 9 (.bin .lss 8 (ci 4))]
def Z0gr:List J:=[oj 10 (.mv 8),oj 7 (.mv 10)]
def Z0gs:Sch:=(.p [0] (oj 12 (.mv 7)) (.p [1] (oj 13 (.mv 7)) (.p [2] (oj 14 (.ia 4 1 2 13)) (.p [4] (oj 16 (.mv 7)) (.p [5] (oj 17 (.ia 4 1 3 16)) (.p [7] (oj 19 (.mv 6)) (.q [3] (oj 15 (.ld 1 false 14)) (.q [6] (oj 18 (.ld 1 false 17)) (.p [8] (oj 20 (.xcall 190 [15,18,19])) (.p [9] (oj 11 (.mv 20)) (.p [10] (oj 21 (.ext 11 0)) (.p [11] (oj 22 (.ext 11 1)) (.p [12] (oj 23 (.ia 4 1 2 12)) (.e 13 (oe (.st 1 23 21)) (.p [14] (oj 6 (.mv 22)) .nil)))))))))))))))
def Z07o:IC:=(.seq (.ops Z0gr) (.draw Z0gs [13]))
def Z0gt:List J:=[oj 24 (.bin .add 8 (ci 1)),oj 8 (.mv 24)]
def Z0af:IC:=(.seq (.ops Z0gq) (.seq (.cond 9 .skip (.exit 0)) (.seq (.block 1 Z07o) (.ops Z0gt))))
def Z07n:IC:=(.loop Z0af)
def Z0gu:List J:=[oj 25 (.ld 4 true 2),oj 26 (.mv 6),on_ (.st 4 4 25),oj 5 (.mv 26)]
def d131:FnD:=⟨27,[.cell 4 4 true,.tmp 5],(.seq (.ops Z0gn) (.seq (.ops Z0go) (.seq (.seq (.ops Z0gp) (.block 0 Z07n)) (.seq (.ops Z0gu) .ret))))⟩
theorem Z0y9:okF Tryz.prog 131 d131=true:=by kernel_rfl
def Z0ls:List J:=[oj 2 (.bx 162 0),oj 3 (.bx 162 1),oj 4 (.al 162 [.ints .u64 4 (List.replicate 4 0)]),oj 5 (.mv (cu 0))]
def Z0lt:List J:=[oj 6 (.mv (cu 0))]
def Z0lu:List J:=[oj 8 (.mv (ci 0))]
def Z0lv:List J:=[oj 9 (.bin .lss 8 (ci 4))]
def Z0lw:List J:=[oj 10 (.mv 8),oj 7 (.mv 10)]
def Z0lx:Sch:=(.p [0] (oj 12 (.mv 7)) (.p [1] (oj 13 (.mv 7)) (.p [2] (oj 14 (.ia 4 1 2 13)) (.p [4] (oj 16 (.mv 7)) (.p [5] (oj 17 (.ia 4 1 3 16)) (.p [7] (oj 19 (.mv 6)) (.q [3] (oj 15 (.ld 1 false 14)) (.q [6] (oj 18 (.ld 1 false 17)) (.p [8] (oj 20 (.xcall 158 [15,18,19])) (.p [9] (oj 11 (.mv 20)) (.p [10] (oj 21 (.ext 11 0)) (.p [11] (oj 22 (.ext 11 1)) (.p [12] (oj 23 (.ia 4 1 2 12)) (.e 13 (oe (.st 1 23 21)) (.p [14] (oj 6 (.mv 22)) .nil)))))))))))))))
def Z08i:IC:=(.seq (.ops Z0lw) (.draw Z0lx [13]))
def Z0ly:List J:=[oj 24 (.bin .add 8 (ci 1)),oj 8 (.mv 24)]
def Z0au:IC:=(.seq (.ops Z0lv) (.seq (.cond 9 .skip (.exit 0)) (.seq (.block 1 Z08i) (.ops Z0ly))))
def Z08h:IC:=(.loop Z0au)
def Z0lz:List J:=[oj 25 (.ld 4 true 2),oj 26 (.mv 6),on_ (.st 4 4 25),oj 5 (.mv 26)]
def d165:FnD:=⟨27,[.cell 4 4 true,.tmp 5],(.seq (.ops Z0ls) (.seq (.ops Z0lt) (.seq (.seq (.ops Z0lu) (.block 0 Z08h)) (.seq (.ops Z0lz) .ret))))⟩
theorem Z0z3:okF Tryz.prog 165 d165=true:=by kernel_rfl
def Z0m2:List J:=[oj 1 (.bx 162 0),oj 2 (.al 162 [.ints .u64 4 (List.replicate 4 0)])]
def Z0m3:List J:=[oj 3 (.mv (ci 3))]
def Z0m4:List J:=[oj 4 (.mv 3),oj 5 (.bin .geq 4 (ci 0))]
def Z0m6:Sch:=(.p [0] (oj 8 (.mv 3)) (.p [1] (oj 9 (.ia 4 1 1 8)) (.p [3] (oj 11 (.mv 3)) (.p [4] (oj 12 (.ia 4 1 (.global 1) 11)) (.q [2] (oj 10 (.ld 1 false 9)) (.q [5] (oj 13 (.ld 1 false 12)) (.p [6] (oj 14 (.bin .lss 10 13)) .nil)))))))
def Z0m7:Sch:=(.p [0] (oj 15 (.mv 3)) (.p [1] (oj 16 (.ia 4 1 1 15)) (.p [3] (oj 18 (.mv 3)) (.p [4] (oj 19 (.ia 4 1 (.global 1) 18)) (.q [2] (oj 17 (.ld 1 false 16)) (.q [5] (oj 20 (.ld 1 false 19)) (.p [6] (oj 21 (.bin .gtr 17 20)) .nil)))))))
def Z08m:IC:=(.seq (.seq (.draw Z0m6 []) (.cond 14 (.exit 0) .skip)) (.seq (.draw Z0m7 []) (.cond 21 (.exit 2) .skip)))
def Z0m5:List J:=[oj 6 (.mv 3),oj 7 (.bin .sub 6 (ci 1)),oj 3 (.mv 7)]
def Z0aw:IC:=(.seq (.seq (.ops Z0m4) (.cond 5 .skip (.exit 2))) (.seq (.block 3 Z08m) (.ops Z0m5)))
def Z08l:IC:=(.loop Z0aw)
def Z0m8:List J:=[oj 23 (.ld 4 true 1),oj 24 (.ld 4 true (.global 1)),oj 25 (.call 131 [23,24]),oj 22 (.mv 25),oj 26 (.ext 22 0),oj 27 (.ext 22 1),on_ (.st 4 1 26)]
def Z08k:IC:=(.seq (.seq (.ops Z0m3) (.block 2 Z08l)) (.ops Z0m8))
def Z0av:IC:=(.block 1 Z08k)
def Z08j:IC:=(.loop Z0av)
def Z0m9:List J:=[oj 28 (.ld 4 true 1),on_ (.st 4 2 28)]
def d167:FnD:=⟨29,[.cell 2 4 true],(.seq (.ops Z0m2) (.scope (.seq .lbl (.seq (.block 0 Z08j) (.seq (.ops Z0m9) .ret)))))⟩
theorem Z0z5:okF Tryz.prog 167 d167=true:=by kernel_rfl
def Z0ma:List J:=[oj 4 (.mv (.const (.slice none 0 0)))]
def Z0mb:List J:=[oj 14 (.mv 0),oj 15 (.len 14),oj 16 (.mv 1),oj 17 (.len 16),oj 18 (.bin .add 15 17),oj 19 (.mks 78 8 [.one (.int .u64 0)] 18 18),oj 5 (.mv 19)]
def Z0mc:List J:=[oj 20 (.mv 0),oj 21 (.len 20),oj 22 (.mv (ci 0))]
def Z0md:List J:=[oj 23 (.bin .lss 22 21)]
def Z0me:List J:=[oj 24 (.mv 22),oj 25 (.ias 1 20 22),oj 26 (.ld 1 false 25),oj 6 (.mv 24),oj 7 (.mv 26)]
def Z0mf:List J:=[oj 8 (.mv (cu 0))]
def Z0mg:List J:=[oj 27 (.mv 1),oj 28 (.len 27),oj 29 (.mv (ci 0))]
def Z0mh:List J:=[oj 30 (.bin .lss 29 28)]
def Z0mi:List J:=[oj 31 (.mv 29),oj 32 (.ias 1 27 29),oj 33 (.ld 1 false 32),oj 9 (.mv 31),oj 10 (.mv 33)]
def Z0mj:List J:=[oj 35 (.mv 7),oj 36 (.mv 10),oj 37 (.call 200 [35,36]),oj 34 (.mv 37),oj 38 (.ext 34 0),oj 39 (.ext 34 1),oj 11 (.mv 38),oj 12 (.mv 39)]
def Z045:List J:=[oj 41 (.mv 12),oj 42 (.mv 5),oj 43 (.mv 6),oj 44 (.mv 9),oj 45 (.bin .add 43 44),oj 46 (.ias 1 42 45),oj 47 (.ld 1 false 46),oj 48 (.xcall 158 [41,47,(cu 0)]),oj 40 (.mv 48),oj 49 (.ext 40 0),oj 50 (.ext 40 1),oj 12 (.mv 49),oj 13 (.mv 50)]
def Z046:List J:=[oj 51 (.mv 11),oj 52 (.mv 13),oj 53 (.bin .add 51 52),oj 11 (.mv 53)]
def Z047:List J:=[oj 55 (.mv 12),oj 56 (.mv 8),oj 57 (.xcall 158 [55,56,(cu 0)]),oj 54 (.mv 57),oj 58 (.ext 54 0),oj 59 (.ext 54 1),oj 12 (.mv 58),oj 13 (.mv 59)]
def Z048:List J:=[oj 60 (.mv 5),oj 61 (.mv 6),oj 62 (.mv 9),oj 63 (.bin .add 61 62),oj 64 (.mv 12),oj 65 (.mv 11),oj 66 (.mv 13),oj 67 (.bin .add 65 66),oj 68 (.ias 1 60 63),on_ (.st 1 68 64),oj 8 (.mv 67)]
def Z08q:IC:=(.seq (.ops Z0mi) (.seq (.ops Z0mj) (.seq (.ops Z045) (.seq (.ops Z046) (.seq (.ops Z047) (.ops Z048))))))
def Z049:List J:=[oj 69 (.bin .add 29 (ci 1)),oj 29 (.mv 69)]
def Z0ay:IC:=(.seq (.ops Z0mh) (.seq (.cond 30 .skip (.exit 2)) (.seq (.block 3 Z08q) (.ops Z049))))
def Z08p:IC:=(.loop Z0ay)
def Z04a:List J:=[oj 70 (.mv 5),oj 71 (.mv 6),oj 72 (.mv 1),oj 73 (.len 72),oj 74 (.bin .add 71 73),oj 75 (.mv 8),oj 76 (.ias 1 70 74),on_ (.st 1 76 75)]
def Z08o:IC:=(.seq (.ops Z0me) (.seq (.ops Z0mf) (.seq (.seq (.ops Z0mg) (.block 2 Z08p)) (.ops Z04a))))
def Z04b:List J:=[oj 77 (.bin .add 22 (ci 1)),oj 22 (.mv 77)]
def Z0ax:IC:=(.seq (.ops Z0md) (.seq (.cond 23 .skip (.exit 0)) (.seq (.block 1 Z08o) (.ops Z04b))))
def Z08n:IC:=(.loop Z0ax)
def Z04c:List J:=[oj 78 (.mv 5),oj 4 (.mv 78)]
def d168:FnD:=⟨79,[.tmp 4],(.seq (.ops Z0ma) (.seq (.ops Z0mb) (.seq (.seq (.ops Z0mc) (.block 0 Z08n)) (.seq (.ops Z04c) .ret))))⟩
theorem Z0z6:okF Tryz.prog 168 d168=true:=by kernel_rfl
def Z0rn:List J:=[oj 2 (.al 162 [.ints .u64 4 (List.replicate 4 0)]),oj 3 (.mv (.const (.slice none 0 0)))]
def Z0ro:List J:=[oj 4 (.al 162 [.ints .u64 4 (List.replicate 4 0)])]
def Z0rp:List J:=[oj 8 (.sla 4 1 4 none none none),oj 9 (.mv 0),oj 10 (.cpy 1 8 9)]
def Z0rq:List J:=[oj 11 (.ia 4 1 4 (ci 3)),oj 12 (.ld 1 false 11),oj 13 (.bin .and 12 (cu 1152921504606846975)),oj 14 (.ia 4 1 4 (ci 3)),on_ (.st 1 14 13)]
def Z0rr:List J:=[oj 5 (.mv (.const (.slice none 0 0)))]
def Z0rs:List J:=[oj 6 (.mv (ci 3))]
def Z0rt:List J:=[oj 15 (.mv 6),oj 16 (.mv 0),oj 17 (.len 16),oj 18 (.bin .lss 15 17)]
def Z0rv:List J:=[oj 21 (.mv 0),oj 22 (.mv 6),oj 23 (.ias 1 21 22),oj 24 (.ld 1 false 23),oj 25 (.bin .shr 24 (cu 60)),oj 7 (.mv 25)]
def Z0rw:List J:=[oj 26 (.mv 6),oj 27 (.bin .add 26 (ci 1)),oj 28 (.mv 0),oj 29 (.len 28),oj 30 (.bin .lss 27 29)]
def Z04k:List J:=[oj 31 (.mv 7),oj 32 (.mv 0),oj 33 (.mv 6),oj 34 (.bin .add 33 (ci 1)),oj 35 (.ias 1 32 34),oj 36 (.ld 1 false 35),oj 37 (.bin .shl 36 (cu 4)),oj 38 (.bin .or 31 37),oj 7 (.mv 38)]
def Z04l:List J:=[oj 39 (.mv 5),oj 40 (.mv 7),oj 41 (.bs 78 1 1 [.one (.int .u64 0)] [(0,1,40)]),oj 42 (.app 78 1 8 [.one (.int .u64 0)] 39 41),oj 5 (.mv 42)]
def Z09k:IC:=(.seq (.ops Z0rv) (.seq (.seq (.ops Z0rw) (.cond 30 (.ops Z04k) .skip)) (.ops Z04l)))
def Z0ru:List J:=[oj 19 (.mv 6),oj 20 (.bin .add 19 (ci 1)),oj 6 (.mv 20)]
def Z0bd:IC:=(.seq (.seq (.ops Z0rt) (.cond 18 .skip (.exit 0))) (.seq (.block 1 Z09k) (.ops Z0ru)))
def Z09j:IC:=(.loop Z0bd)
def Z04m:List J:=[oj 43 (.ld 4 true 4),oj 44 (.mv 5),on_ (.st 4 2 43),oj 3 (.mv 44)]
def d205:FnD:=⟨45,[.cell 2 4 true,.tmp 3],(.seq (.ops Z0rn) (.seq (.ops Z0ro) (.seq (.ops Z0rp) (.seq (.ops Z0rq) (.seq (.ops Z0rr) (.seq (.seq (.ops Z0rs) (.block 0 Z09j)) (.seq (.ops Z04m) .ret)))))))⟩
theorem Z101:okF Tryz.prog 205 d205=true:=by kernel_rfl
def Z0rx:List J:=[oj 0 (.mv (.const (.slice none 0 0)))]
def Z0ry:List J:=[oj 1 (.bs 78 2 1 [.one (.int .u64 0),.one (.int .u64 0)] [(0,1,(cu 6346243789798364141)),(1,1,(cu 1503914060200516822))]),oj 0 (.mv 1)]
def d206:FnD:=⟨2,[.tmp 0],(.seq (.ops Z0rx) (.seq (.ops Z0ry) .ret))⟩
theorem Z102:okF Tryz.prog 206 d206=true:=by kernel_rfl
def Z0l8:List J:=[oj 2 (.al 162 [.ints .u64 4 (List.replicate 4 0)])]
def Z0l9:List J:=[oj 3 (.al 229 [.rows 4 2 (fun _=>cells [.ints .u64 4 (List.replicate 4 0)])])]
def Z0la:List J:=[oj 10 (.mv (ci 0))]
def Z0lb:List J:=[oj 11 (.bin .lss 10 (ci 4))]
def Z0lc:List J:=[oj 12 (.mv 10),oj 4 (.mv 12)]
def Z0ld:List J:=[oj 5 (.al 162 [.ints .u64 4 (List.replicate 4 0)])]
def Z0le:List J:=[oj 14 (.mv 0),oj 15 (.call 205 [14]),oj 13 (.mv 15),oj 16 (.ext 13 0),oj 17 (.ext 13 1),on_ (.st 4 5 16),oj 0 (.mv 17)]
def Z0lf:Sch:=(.p [0] (oj 19 (.mv 4)) (.p [1] (oj 20 (.bin .rem 19 (ci 2))) (.p [2] (oj 21 (.mv 4)) (.p [3] (oj 22 (.bin .rem 21 (ci 2))) (.p [4] (oj 23 (.ia 2 4 3 22)) (.q [5] (oj 24 (.ld 4 true 23)) (.q [6] (oj 25 (.ld 4 true 5)) (.p [7] (oj 26 (.call 165 [24,25])) (.p [8] (oj 18 (.mv 26)) (.p [9] (oj 27 (.ext 18 0)) (.p [10] (oj 28 (.ext 18 1)) (.p [11] (oj 29 (.ia 2 4 3 20)) (.e 12 (oe (.st 4 29 27)) .nil)))))))))))))
def Z0lg:List J:=[oj 30 (.mv 0),oj 31 (.call 206 []),oj 32 (.call 168 [30,31]),oj 0 (.mv 32)]
def Z08g:IC:=(.seq (.ops Z0lc) (.seq (.ops Z0ld) (.seq (.ops Z0le) (.seq (.draw Z0lf [12]) (.ops Z0lg)))))
def Z0lh:List J:=[oj 33 (.bin .add 10 (ci 1)),oj 10 (.mv 33)]
def Z0at:IC:=(.seq (.ops Z0lb) (.seq (.cond 11 .skip (.exit 0)) (.seq (.block 1 Z08g) (.ops Z0lh))))
def Z08f:IC:=(.loop Z0at)
def Z041:List J:=[oj 35 (.ld 4 true (.global 1)),oj 36 (.ld 4 true (.global 1)),oj 37 (.call 165 [35,36]),oj 34 (.mv 37),oj 38 (.ext 34 0),oj 39 (.ext 34 1),oj 6 (.al 162 [.ints .u64 4 (List.replicate 4 0)]),on_ (.st 4 6 38),oj 7 (.mv 39)]
def Z042:List J:=[oj 41 (.ia 2 4 3 (ci 0)),oj 42 (.ld 4 true 41),oj 43 (.ld 4 true 6),oj 44 (.call 165 [42,43]),oj 40 (.mv 44),oj 45 (.ext 40 0),oj 46 (.ext 40 1),oj 8 (.al 162 [.ints .u64 4 (List.replicate 4 0)]),on_ (.st 4 8 45),oj 9 (.mv 46)]
def Z043:List J:=[oj 48 (.ld 4 true 8),oj 49 (.ia 2 4 3 (ci 1)),oj 50 (.ld 4 true 49),oj 51 (.call 131 [48,50]),oj 47 (.mv 51),oj 52 (.ext 47 0),oj 53 (.ext 47 1),on_ (.st 4 8 52)]
def Z044:List J:=[oj 54 (.ld 4 true 8),oj 55 (.call 167 [54]),on_ (.st 4 2 55)]
def d162:FnD:=⟨56,[.cell 2 4 true],(.seq (.ops Z0l8) (.seq (.ops Z0l9) (.seq (.seq (.ops Z0la) (.block 0 Z08f)) (.seq (.ops Z041) (.seq (.ops Z042) (.seq (.ops Z043) (.seq (.ops Z044) .ret)))))))⟩
theorem Z0z0:okF Tryz.prog 162 d162=true:=by kernel_rfl
def Z16w:List J:=[oj 1 (.bx 94 0),oj 2 (.al 74 [.ints .u8 32 (List.replicate 32 0)])]
def Z16x:List J:=[oj 3 (.al 144 [.ints .u64 8 (List.replicate 8 0)])]
def Z16y:List J:=[oj 5 (.mv (ci 0))]
def Z16z:List J:=[oj 6 (.bin .lss 5 (ci 8))]
def Z170:List J:=[oj 7 (.mv 5),oj 4 (.mv 7)]
def Z171:List J:=[oj 9 (.mv 4),oj 10 (.sla 64 1 1 none none none),oj 11 (.mv 4),oj 12 (.bin .mul (ci 8) 11),oj 13 (.call 160 [10,12]),oj 8 (.mv 13),oj 14 (.ext 8 0),oj 15 (.ext 8 1),oj 16 (.ia 8 1 3 9),on_ (.st 1 16 14)]
def Z0wx:IC:=(.seq (.ops Z170) (.ops Z171))
def Z172:List J:=[oj 17 (.bin .add 5 (ci 1)),oj 5 (.mv 17)]
def Z0xi:IC:=(.seq (.ops Z16z) (.seq (.cond 6 .skip (.exit 0)) (.seq (.block 1 Z0wx) (.ops Z172))))
def Z0ww:IC:=(.loop Z0xi)
def Z173:List J:=[oj 18 (.sla 8 1 3 none none none),oj 19 (.call 162 [18]),oj 20 (.call 161 [19]),on_ (.st 32 2 20)]
def d98:FnD:=⟨21,[.cell 2 32 true],(.seq (.ops Z16w) (.seq (.ops Z16x) (.seq (.seq (.ops Z16y) (.block 0 Z0ww)) (.seq (.ops Z173) .ret))))⟩
theorem ok98:okF Tryz.prog 98 d98=true:=by kernel_rfl
def Z130:List J:=[oj 2 (.al 74 [.ints .u8 32 (List.replicate 32 0)])]
def Z131:List J:=[oj 6 (.call 96 []),oj 3 (.mv 6)]
def Z132:List J:=[oj 7 (.mv 0),oj 8 (.len 7),oj 9 (.mv (ci 0))]
def Z133:List J:=[oj 10 (.bin .lss 9 8)]
def Z134:List J:=[oj 11 (.ias 1 7 9),oj 12 (.ld 1 false 11),oj 5 (.mv 12)]
def Z135:List J:=[oj 13 (.mv 3),oj 14 (.mv 5),oj 15 (.call 97 [13,14])]
def Z0w7:IC:=(.seq (.ops Z134) (.ops Z135))
def Z136:List J:=[oj 16 (.bin .add 9 (ci 1)),oj 9 (.mv 16)]
def Z0x5:IC:=(.seq (.ops Z133) (.seq (.cond 10 .skip (.exit 0)) (.seq (.block 1 Z0w7) (.ops Z136))))
def Z0w6:IC:=(.loop Z0x5)
def Z137:List J:=[oj 17 (.mv 3),oj 18 (.call 99 [17]),oj 19 (.call 98 [18]),on_ (.st 32 2 19)]
def d52:FnD:=⟨20,[.cell 2 32 true],(.seq (.ops Z130) (.seq (.ops Z131) (.seq (.seq (.ops Z132) (.block 0 Z0w6)) (.seq (.ops Z137) .ret))))⟩
theorem ok52:okF Tryz.prog 52 d52=true:=by kernel_rfl
def Z0gv:List J:=[oj 1 (.bx 74 0),oj 2 (.al 162 [.ints .u64 4 (List.replicate 4 0)])]
def Z0gw:List J:=[oj 3 (.al 162 [.ints .u64 4 (List.replicate 4 0)])]
def Z0gx:List J:=[oj 5 (.mv (ci 0))]
def Z0gy:List J:=[oj 6 (.bin .lss 5 (ci 4))]
def Z0gz:List J:=[oj 7 (.mv 5),oj 4 (.mv 7)]
def Z0h0:List J:=[oj 9 (.mv 4),oj 10 (.sla 32 1 1 none none none),oj 11 (.mv 4),oj 12 (.bin .mul (ci 8) 11),oj 13 (.call 160 [10,12]),oj 8 (.mv 13),oj 14 (.ext 8 0),oj 15 (.ext 8 1),oj 16 (.ia 4 1 3 9),on_ (.st 1 16 14)]
def Z07q:IC:=(.seq (.ops Z0gz) (.ops Z0h0))
def Z0h1:List J:=[oj 17 (.bin .add 5 (ci 1)),oj 5 (.mv 17)]
def Z0ag:IC:=(.seq (.ops Z0gy) (.seq (.cond 6 .skip (.exit 0)) (.seq (.block 1 Z07q) (.ops Z0h1))))
def Z07p:IC:=(.loop Z0ag)
def Z0h2:List J:=[oj 18 (.ld 4 true 3),on_ (.st 4 2 18)]
def d132:FnD:=⟨19,[.cell 2 4 true],(.seq (.ops Z0gv) (.seq (.ops Z0gw) (.seq (.seq (.ops Z0gx) (.block 0 Z07p)) (.seq (.ops Z0h2) .ret))))⟩
theorem Z0ya:okF Tryz.prog 132 d132=true:=by kernel_rfl
def Z0mk:List J:=[oj 1 (.bx 74 0),oj 2 (.mv (.const (.slice none 0 0)))]
def Z0ml:List J:=[oj 4 (.ld 32 true 1),oj 5 (.call 132 [4]),oj 3 (.al 162 [.ints .u64 4 (List.replicate 4 0)]),on_ (.st 4 3 5)]
def Z0mm:List J:=[oj 6 (.sla 4 1 3 none none none),oj 2 (.mv 6)]
def d169:FnD:=⟨7,[.tmp 2],(.seq (.ops Z0mk) (.seq (.ops Z0ml) (.seq (.ops Z0mm) .ret)))⟩
theorem Z0z7:okF Tryz.prog 169 d169=true:=by kernel_rfl
def Z0m0:List J:=[oj 1 (.bx 74 0),oj 2 (.al 162 [.ints .u64 4 (List.replicate 4 0)])]
def Z0m1:List J:=[oj 3 (.ld 32 true 1),oj 4 (.call 169 [3]),oj 5 (.call 162 [4]),on_ (.st 4 2 5)]
def d166:FnD:=⟨6,[.cell 2 4 true],(.seq (.ops Z0m0) (.seq (.ops Z0m1) .ret))⟩
theorem Z0z4:okF Tryz.prog 166 d166=true:=by kernel_rfl
def Z0c8:List J:=[oj 2 (.bx 74 0),oj 3 (.bx 74 1),oj 4 (.al 74 [.ints .u8 32 (List.replicate 32 0)])]
def Z0c9:Sch:=(.q [0] (oj 8 (.ld 32 true 2)) (.p [1] (oj 9 (.call 166 [8])) (.q [2] (oj 10 (.ld 32 true 3)) (.p [3] (oj 11 (.call 166 [10])) (.p [4] (oj 12 (.call 165 [9,11])) (.p [5] (oj 7 (.mv 12)) (.p [6] (oj 13 (.ext 7 0)) (.p [7] (oj 14 (.ext 7 1)) (.e 8 (oi 5 (.al 162 [.ints .u64 4 (List.replicate 4 0)])) (.e 9 (oe (.st 4 5 13)) (.p [10] (oj 6 (.mv 14)) .nil)))))))))))
def Z0ca:List J:=[oj 15 (.ld 4 true 5),oj 16 (.call 167 [15]),oj 17 (.call 161 [16]),on_ (.st 32 4 17)]
def d100:FnD:=⟨18,[.cell 4 32 true],(.seq (.ops Z0c8) (.seq (.draw Z0c9 [9]) (.seq (.ops Z0ca) .ret)))⟩
theorem Z0xl:okF Tryz.prog 100 d100=true:=by kernel_rfl
def Z0cb:List J:=[oj 2 (.bx 74 0),oj 3 (.bx 74 1),oj 4 (.al 74 [.ints .u8 32 (List.replicate 32 0)])]
def Z0cc:Sch:=(.q [0] (oj 5 (.ld 32 true 2)) (.q [2] (oj 7 (.ld 32 true 3)) (.e 1 (oi 6 (.call 169 [5])) (.e 3 (oi 8 (.call 169 [7])) (.e 4 (oi 9 (.call 168 [6,8])) (.e 5 (oi 10 (.call 162 [9])) (.p [6] (oj 11 (.call 161 [10])) (.e 7 (oe (.st 32 4 11)) .nil))))))))
def d101:FnD:=⟨12,[.cell 4 32 true],(.seq (.ops Z0cb) (.seq (.draw Z0cc [7]) .ret))⟩
theorem Z0xm:okF Tryz.prog 101 d101=true:=by kernel_rfl
def Z138:List J:=[oj 3 (.bx 74 0),oj 4 (.bx 74 1),oj 5 (.bx 74 2),oj 6 (.al 74 [.ints .u8 32 (List.replicate 32 0)])]
def Z139:Sch:=(.q [0] (oj 7 (.ld 32 true 3)) (.q [1] (oj 8 (.ld 32 true 4)) (.p [2] (oj 9 (.call 101 [7,8])) (.q [3] (oj 10 (.ld 32 true 5)) (.p [4] (oj 11 (.call 100 [9,10])) (.e 5 (oe (.st 32 6 11)) .nil))))))
def d53:FnD:=⟨12,[.cell 6 32 true],(.seq (.ops Z138) (.seq (.draw Z139 [5]) .ret))⟩
theorem ok53:okF Tryz.prog 53 d53=true:=by kernel_rfl
def Z10q:List J:=[oj 2 (.bx 23 0),oj 4 (.al 27 [.ints .u8 64 (List.replicate 64 0)])]
def Z10r:List J:=[oj 14 (.ld 32 true 2),oj 15 (.call 49 [14]),oj 13 (.mv 15),oj 16 (.ext 13 0),oj 17 (.ext 13 1),oj 5 (.al 74 [.ints .u8 32 (List.replicate 32 0)]),on_ (.st 32 5 16),oj 6 (.mv 17)]
def Z10s:List J:=[oj 18 (.ld 32 true 5),oj 19 (.call 51 [18]),oj 20 (.call 50 [19]),oj 7 (.al 29 [.ints .u8 32 (List.replicate 32 0)]),on_ (.st 32 7 20)]
def Z10t:List J:=[oj 21 (.mv 6),oj 22 (.mv 1),oj 23 (.bs 24 2 1 [.one (.slice none 0 0),.one (.slice none 0 0)] [(0,1,21),(1,1,22)]),oj 24 (.call 52 [23]),oj 8 (.al 74 [.ints .u8 32 (List.replicate 32 0)]),on_ (.st 32 8 24)]
def Z10u:List J:=[oj 25 (.ld 32 true 8),oj 26 (.call 51 [25]),oj 27 (.call 50 [26]),oj 9 (.al 29 [.ints .u8 32 (List.replicate 32 0)]),on_ (.st 32 9 27)]
def Z10v:Sch:=(.p [0] (oj 28 (.sla 32 1 9 none none none)) (.p [1] (oj 29 (.sla 32 1 7 none none none)) (.p [2] (oj 30 (.mv 1)) (.two 3 (oi 31 (.bs 24 3 1 [.one (.slice none 0 0),.one (.slice none 0 0),.one (.slice none 0 0)] [(0,1,28),(1,1,29),(2,1,30)])) (.two 4 (oi 32 (.call 52 [31])) (.e 5 (oi 10 (.al 74 [.ints .u8 32 (List.replicate 32 0)])) (.e 6 (oe (.st 32 10 32)) .nil))
  5 ⟨some 10,none,.al 74 [.ints .u8 32 (List.replicate 32 0)]⟩ (.e 4 (oi 32 (.call 52 [31])) (.e 6 (oe (.st 32 10 32)) .nil)))
  5 ⟨some 10,none,.al 74 [.ints .u8 32 (List.replicate 32 0)]⟩ (.e 3 (oi 31 (.bs 24 3 1 [.one (.slice none 0 0),.one (.slice none 0 0),.one (.slice none 0 0)] [(0,1,28),(1,1,29),(2,1,30)])) (.e 4 (oi 32 (.call 52 [31])) (.e 6 (oe (.st 32 10 32)) .nil)))))))
def Z10w:List J:=[oj 33 (.ld 32 true 10),oj 34 (.ld 32 true 5),oj 35 (.ld 32 true 8),oj 36 (.call 53 [33,34,35]),oj 11 (.al 74 [.ints .u8 32 (List.replicate 32 0)]),on_ (.st 32 11 36)]
def Z10x:List J:=[oj 12 (.al 27 [.ints .u8 64 (List.replicate 64 0)])]
def Z10y:Sch:=(.p [0] (oj 37 (.sla 64 1 12 none (some (ci 32)) none)) (.p [1] (oj 38 (.sla 32 1 9 none none none)) (.e 2 (oi 39 (.cpy 1 37 38)) .nil)))
def Z10z:Sch:=(.p [0] (oj 40 (.sla 64 1 12 (some (ci 32)) none none)) (.p [1] (oj 41 (.sla 32 1 11 none none none)) (.e 2 (oi 42 (.cpy 1 40 41)) .nil)))
def Z0fq:List J:=[oj 43 (.ld 64 true 12),on_ (.st 64 4 43)]
def d11:FnD:=⟨44,[.cell 4 64 true],(.seq (.ops Z10q) (.seq (.ops Z10r) (.seq (.ops Z10s) (.seq (.ops Z10t) (.seq (.ops Z10u) (.seq (.draw Z10v [6]) (.seq (.ops Z10w) (.seq (.ops Z10x) (.seq (.draw Z10y [2]) (.seq (.draw Z10z [2]) (.seq (.ops Z0fq) .ret)))))))))))⟩
theorem ok11:okF Tryz.prog 11 d11=true:=by kernel_rfl
def Z0q5:List J:=[oj 2 (.bx 88 0),oj 3 (.bx 88 1),oj 4 (.al 88 [Z10])]
def Z0q6:List J:=[oj 5 (.mv (cu 0))]
def Z0q7:List J:=[oj 6 (.mv (ci 0))]
def Z0q8:List J:=[oj 8 (.mv 6),oj 9 (.bin .lss 8 (ci 10))]
def Z0qa:Sch:=(.p [0] (oj 12 (.mv 6)) (.p [1] (oj 13 (.ia 10 1 2 12)) (.p [5] (oj 17 (.mv 6)) (.p [6] (oj 18 (.ia 10 1 3 17)) (.p [9] (oj 21 (.mv 5)) (.q [2] (oj 14 (.ld 1 false 13)) (.p [3] (oj 15 (.bin .add 14 (cu 67108863))) (.p [4] (oj 16 (.bin .add 15 (cu 1))) (.q [7] (oj 19 (.ld 1 false 18)) (.p [8] (oj 20 (.bin .sub 16 19)) (.p [10] (oj 22 (.bin .sub 20 21)) (.p [11] (oj 7 (.mv 22)) .nil))))))))))))
def Z0qb:List J:=[oj 23 (.mv 7),oj 24 (.bin .shr 23 (cu 26)),oj 25 (.bin .sub (cu 1) 24),oj 5 (.mv 25)]
def Z0qc:List J:=[oj 26 (.mv 6),oj 27 (.mv 7),oj 28 (.bin .and 27 (cu 67108863)),oj 29 (.ia 10 1 2 26),on_ (.st 1 29 28)]
def Z09c:IC:=(.seq (.draw Z0qa []) (.seq (.ops Z0qb) (.ops Z0qc)))
def Z0q9:List J:=[oj 10 (.mv 6),oj 11 (.bin .add 10 (ci 1)),oj 6 (.mv 11)]
def Z0b9:IC:=(.seq (.seq (.ops Z0q8) (.cond 9 .skip (.exit 0))) (.seq (.block 1 Z09c) (.ops Z0q9)))
def Z09b:IC:=(.loop Z0b9)
def Z0qd:List J:=[oj 30 (.ld 10 true 2),on_ (.st 10 4 30)]
def d197:FnD:=⟨31,[.cell 4 10 true],(.seq (.ops Z0q5) (.seq (.ops Z0q6) (.seq (.seq (.ops Z0q7) (.block 0 Z09b)) (.seq (.ops Z0qd) .ret))))⟩
theorem Z0zt:okF Tryz.prog 197 d197=true:=by kernel_rfl
def Z0qe:List J:=[oj 0 (.al 88 [Z10])]
def Z0qf:List J:=[oj 1 (.bd [Z10] [(0,1,(cu 67108845)),(1,1,(cu 67108863)),(2,1,(cu 67108863)),(3,1,(cu 67108863)),(4,1,(cu 67108863)),(5,1,(cu 67108863)),(6,1,(cu 67108863)),(7,1,(cu 67108863)),(8,1,(cu 67108863)),(9,1,(cu 2097151))]),on_ (.st 10 0 1)]
def d198:FnD:=⟨2,[.cell 0 10 true],(.seq (.ops Z0qe) (.seq (.ops Z0qf) .ret))⟩
theorem Z0zu:okF Tryz.prog 198 d198=true:=by kernel_rfl
def Z0rz:List J:=[oj 1 (.bx 88 0),oj 2 (.al 88 [Z10])]
def Z0s0:List J:=[oj 3 (.mv (ci 0))]
def Z0s1:List J:=[oj 4 (.mv 3),oj 5 (.bin .lss 4 (ci 9))]
def Z0s3:Sch:=(.p [0] (oj 8 (.mv 3)) (.p [1] (oj 9 (.bin .add 8 (ci 1))) (.p [2] (oj 10 (.mv 3)) (.p [3] (oj 11 (.bin .add 10 (ci 1))) (.p [4] (oj 12 (.ia 10 1 1 11)) (.p [6] (oj 14 (.mv 3)) (.p [7] (oj 15 (.ia 10 1 1 14)) (.q [5] (oj 13 (.ld 1 false 12)) (.q [8] (oj 16 (.ld 1 false 15)) (.p [9] (oj 17 (.bin .shr 16 (cu 26))) (.p [10] (oj 18 (.bin .add 13 17)) (.p [11] (oj 19 (.ia 10 1 1 9)) (.e 12 (oe (.st 1 19 18)) .nil)))))))))))))
def Z0s4:List J:=[oj 20 (.mv 3),oj 21 (.mv 3),oj 22 (.ia 10 1 1 21),oj 23 (.ld 1 false 22),oj 24 (.bin .and 23 (cu 67108863)),oj 25 (.ia 10 1 1 20),on_ (.st 1 25 24)]
def Z09m:IC:=(.seq (.draw Z0s3 [12]) (.ops Z0s4))
def Z0s2:List J:=[oj 6 (.mv 3),oj 7 (.bin .add 6 (ci 1)),oj 3 (.mv 7)]
def Z0be:IC:=(.seq (.seq (.ops Z0s1) (.cond 5 .skip (.exit 0))) (.seq (.block 1 Z09m) (.ops Z0s2)))
def Z09l:IC:=(.loop Z0be)
def Z0s5:List J:=[oj 26 (.ld 10 true 1),on_ (.st 10 2 26)]
def d207:FnD:=⟨27,[.cell 2 10 true],(.seq (.ops Z0rz) (.seq (.seq (.ops Z0s0) (.block 0 Z09l)) (.seq (.ops Z0s5) .ret)))⟩
theorem Z103:okF Tryz.prog 207 d207=true:=by kernel_rfl
def Z0s6:List J:=[oj 2 (.bx 88 0),oj 3 (.bx 88 1),oj 4 (.mv (.const (.bool false)))]
def Z0s7:List J:=[oj 5 (.mv (ci 9))]
def Z0s8:List J:=[oj 6 (.mv 5),oj 7 (.bin .geq 6 (ci 0))]
def Z0sa:Sch:=(.p [0] (oj 10 (.mv 5)) (.p [1] (oj 11 (.ia 10 1 2 10)) (.p [3] (oj 13 (.mv 5)) (.p [4] (oj 14 (.ia 10 1 3 13)) (.q [2] (oj 12 (.ld 1 false 11)) (.q [5] (oj 15 (.ld 1 false 14)) (.p [6] (oj 16 (.bin .neq 12 15)) .nil)))))))
def Z0sb:Sch:=(.p [0] (oj 17 (.mv 5)) (.p [1] (oj 18 (.ia 10 1 2 17)) (.p [3] (oj 20 (.mv 5)) (.p [4] (oj 21 (.ia 10 1 3 20)) (.q [2] (oj 19 (.ld 1 false 18)) (.q [5] (oj 22 (.ld 1 false 21)) (.p [6] (oj 23 (.bin .lss 19 22)) (.p [7] (oj 4 (.mv 23)) .nil))))))))
def Z09o:IC:=(.seq (.draw Z0sa []) (.cond 16 (.seq (.draw Z0sb []) .ret) .skip))
def Z0s9:List J:=[oj 8 (.mv 5),oj 9 (.bin .sub 8 (ci 1)),oj 5 (.mv 9)]
def Z0bf:IC:=(.seq (.seq (.ops Z0s8) (.cond 7 .skip (.exit 0))) (.seq (.block 1 Z09o) (.ops Z0s9)))
def Z09n:IC:=(.loop Z0bf)
def Z0sc:List J:=[oj 4 (.mv (.const (.bool false)))]
def d208:FnD:=⟨24,[.tmp 4],(.seq (.ops Z0s6) (.seq (.seq (.ops Z0s7) (.block 0 Z09n)) (.seq (.ops Z0sc) .ret)))⟩
theorem Z104:okF Tryz.prog 208 d208=true:=by kernel_rfl
def Z0n5:List J:=[oj 1 (.bx 88 0),oj 2 (.al 88 [Z10])]
def Z0n6:List J:=[oj 4 (.ld 10 true 1),oj 5 (.call 207 [4]),on_ (.st 10 1 5)]
def Z0n7:List J:=[oj 6 (.ia 10 1 1 (ci 9)),oj 7 (.ld 1 false 6),oj 8 (.bin .gtr 7 (cu 2097151))]
def Z0n8:List J:=[oj 9 (.ia 10 1 1 (ci 0)),oj 10 (.ld 1 false 9),oj 11 (.ia 10 1 1 (ci 9)),oj 12 (.ld 1 false 11),oj 13 (.bin .shr 12 (cu 21)),oj 14 (.bin .mul (cu 19) 13),oj 15 (.bin .add 10 14),oj 16 (.ia 10 1 1 (ci 0)),on_ (.st 1 16 15)]
def Z0n9:List J:=[oj 17 (.ia 10 1 1 (ci 9)),oj 18 (.ld 1 false 17),oj 19 (.bin .and 18 (cu 2097151)),oj 20 (.ia 10 1 1 (ci 9)),on_ (.st 1 20 19)]
def Z0na:List J:=[oj 21 (.ld 10 true 1),oj 22 (.call 207 [21]),on_ (.st 10 1 22)]
def Z08w:IC:=(.seq (.ops Z0n8) (.seq (.ops Z0n9) (.ops Z0na)))
def Z0b1:IC:=(.seq (.seq (.ops Z0n7) (.cond 8 .skip (.exit 0))) (.block 1 Z08w))
def Z08v:IC:=(.loop Z0b1)
def Z0nb:List J:=[oj 23 (.call 198 []),oj 3 (.al 88 [Z10]),on_ (.st 10 3 23)]
def Z0nc:List J:=[oj 24 (.ld 10 true 1),oj 25 (.ld 10 true 3),oj 26 (.call 208 [24,25]),oj 27 (.un .not 26)]
def Z0nd:List J:=[oj 28 (.ld 10 true 1),oj 29 (.ld 10 true 3),oj 30 (.call 197 [28,29]),on_ (.st 10 1 30)]
def Z0ne:List J:=[oj 31 (.ld 10 true 1),on_ (.st 10 2 31)]
def d172:FnD:=⟨32,[.cell 2 10 true],(.seq (.ops Z0n5) (.seq (.ops Z0n6) (.seq (.block 0 Z08v) (.seq (.ops Z0nb) (.seq (.seq (.ops Z0nc) (.cond 27 (.ops Z0nd) .skip)) (.seq (.ops Z0ne) .ret))))))⟩
theorem Z0za:okF Tryz.prog 172 d172=true:=by kernel_rfl
def Z0cn:List J:=[oj 2 (.bx 88 0),oj 3 (.bx 88 1),oj 4 (.al 88 [Z10])]
def Z0co:List J:=[oj 5 (.al 205 [.ints .u64 20 (List.replicate 20 0)])]
def Z0cp:List J:=[oj 6 (.mv (ci 0))]
def Z0cq:List J:=[oj 11 (.mv 6),oj 12 (.bin .lss 11 (ci 10))]
def Z0cs:List J:=[oj 7 (.mv (ci 0))]
def Z0ct:List J:=[oj 15 (.mv 7),oj 16 (.bin .lss 15 (ci 10))]
def Z0cv:Sch:=(.p [0] (oj 19 (.mv 6)) (.p [1] (oj 20 (.mv 7)) (.p [2] (oj 21 (.bin .add 19 20)) (.p [3] (oj 22 (.mv 6)) (.p [4] (oj 23 (.mv 7)) (.p [5] (oj 24 (.bin .add 22 23)) (.p [6] (oj 25 (.ia 20 1 5 24)) (.p [8] (oj 27 (.mv 6)) (.p [9] (oj 28 (.ia 10 1 2 27)) (.p [11] (oj 30 (.mv 7)) (.p [12] (oj 31 (.ia 10 1 3 30)) (.q [7] (oj 26 (.ld 1 false 25)) (.q [10] (oj 29 (.ld 1 false 28)) (.q [13] (oj 32 (.ld 1 false 31)) (.p [14] (oj 33 (.bin .mul 29 32)) (.p [15] (oj 34 (.bin .add 26 33)) (.p [16] (oj 35 (.ia 20 1 5 21)) (.e 17 (oe (.st 1 35 34)) .nil))))))))))))))))))
def Z06k:IC:=(.draw Z0cv [17])
def Z0cu:List J:=[oj 17 (.mv 7),oj 18 (.bin .add 17 (ci 1)),oj 7 (.mv 18)]
def Z09v:IC:=(.seq (.seq (.ops Z0ct) (.cond 16 .skip (.exit 2))) (.seq (.block 3 Z06k) (.ops Z0cu)))
def Z06j:IC:=(.loop Z09v)
def Z06i:IC:=(.seq (.ops Z0cs) (.block 2 Z06j))
def Z0cr:List J:=[oj 13 (.mv 6),oj 14 (.bin .add 13 (ci 1)),oj 6 (.mv 14)]
def Z09u:IC:=(.seq (.seq (.ops Z0cq) (.cond 12 .skip (.exit 0))) (.seq (.block 1 Z06i) (.ops Z0cr)))
def Z06h:IC:=(.loop Z09u)
def Z0cw:List J:=[oj 8 (.mv (ci 0))]
def Z02w:List J:=[oj 36 (.mv 8),oj 37 (.bin .lss 36 (ci 19))]
def Z02y:Sch:=(.p [0] (oj 40 (.mv 8)) (.p [1] (oj 41 (.bin .add 40 (ci 1))) (.p [2] (oj 42 (.mv 8)) (.p [3] (oj 43 (.bin .add 42 (ci 1))) (.p [4] (oj 44 (.ia 20 1 5 43)) (.p [6] (oj 46 (.mv 8)) (.p [7] (oj 47 (.ia 20 1 5 46)) (.q [5] (oj 45 (.ld 1 false 44)) (.q [8] (oj 48 (.ld 1 false 47)) (.p [9] (oj 49 (.bin .shr 48 (cu 26))) (.p [10] (oj 50 (.bin .add 45 49)) (.p [11] (oj 51 (.ia 20 1 5 41)) (.e 12 (oe (.st 1 51 50)) .nil)))))))))))))
def Z02z:List J:=[oj 52 (.mv 8),oj 53 (.mv 8),oj 54 (.ia 20 1 5 53),oj 55 (.ld 1 false 54),oj 56 (.bin .and 55 (cu 67108863)),oj 57 (.ia 20 1 5 52),on_ (.st 1 57 56)]
def Z06m:IC:=(.seq (.draw Z02y [12]) (.ops Z02z))
def Z02x:List J:=[oj 38 (.mv 8),oj 39 (.bin .add 38 (ci 1)),oj 8 (.mv 39)]
def Z09w:IC:=(.seq (.seq (.ops Z02w) (.cond 37 .skip (.exit 4))) (.seq (.block 5 Z06m) (.ops Z02x)))
def Z06l:IC:=(.loop Z09w)
def Z030:List J:=[oj 9 (.al 88 [Z10])]
def Z031:List J:=[oj 10 (.mv (ci 0))]
def Z032:List J:=[oj 58 (.mv 10),oj 59 (.bin .lss 58 (ci 10))]
def Z034:Sch:=(.p [0] (oj 62 (.mv 10)) (.p [1] (oj 63 (.mv 10)) (.p [2] (oj 64 (.ia 20 1 5 63)) (.p [4] (oj 66 (.mv 10)) (.p [5] (oj 67 (.bin .add 66 (ci 10))) (.p [6] (oj 68 (.ia 20 1 5 67)) (.q [3] (oj 65 (.ld 1 false 64)) (.q [7] (oj 69 (.ld 1 false 68)) (.p [8] (oj 70 (.bin .mul (cu 608) 69)) (.p [9] (oj 71 (.bin .add 65 70)) (.p [10] (oj 72 (.ia 10 1 9 62)) (.e 11 (oe (.st 1 72 71)) .nil))))))))))))
def Z06o:IC:=(.draw Z034 [11])
def Z033:List J:=[oj 60 (.mv 10),oj 61 (.bin .add 60 (ci 1)),oj 10 (.mv 61)]
def Z09x:IC:=(.seq (.seq (.ops Z032) (.cond 59 .skip (.exit 6))) (.seq (.block 7 Z06o) (.ops Z033)))
def Z06n:IC:=(.loop Z09x)
def Z035:List J:=[oj 73 (.ld 10 true 9),oj 74 (.call 172 [73]),on_ (.st 10 4 74)]
def d104:FnD:=⟨75,[.cell 4 10 true],(.seq (.ops Z0cn) (.seq (.ops Z0co) (.seq (.seq (.ops Z0cp) (.block 0 Z06h)) (.seq (.seq (.ops Z0cw) (.block 4 Z06l)) (.seq (.ops Z030) (.seq (.seq (.ops Z031) (.block 6 Z06n)) (.seq (.ops Z035) .ret)))))))⟩
theorem Z0xp:okF Tryz.prog 104 d104=true:=by kernel_rfl
def Z0nz:List J:=[oj 2 (.al 88 [Z10])]
def Z0o0:List J:=[oj 3 (.mv 0),oj 4 (.bin .and 3 (cu 67108863)),oj 5 (.mv 0),oj 6 (.bin .shr 5 (cu 26)),oj 7 (.bin .and 6 (cu 67108863)),oj 8 (.mv 0),oj 9 (.bin .shr 8 (cu 52)),oj 10 (.bd [Z10] [(0,1,4),(1,1,7),(2,1,9)]),on_ (.st 10 2 10)]
def d176:FnD:=⟨11,[.cell 2 10 true],(.seq (.ops Z0nz) (.seq (.ops Z0o0) .ret))⟩
theorem Z0ze:okF Tryz.prog 176 d176=true:=by kernel_rfl
def Z0mn:List J:=[oj 2 (.bx 88 0),oj 3 (.bx 22 1),oj 4 (.al 88 [Z10])]
def Z0mo:List J:=[oj 7 (.call 176 [(cu 1)]),oj 5 (.al 88 [Z10]),on_ (.st 10 5 7)]
def Z0mp:List J:=[oj 6 (.mv (ci 255))]
def Z0mq:List J:=[oj 8 (.mv 6),oj 9 (.bin .geq 8 (ci 0))]
def Z0ms:List J:=[oj 12 (.ld 10 true 5),oj 13 (.ld 10 true 5),oj 14 (.call 104 [12,13]),on_ (.st 10 5 14)]
def Z0mt:List J:=[oj 15 (.mv 6),oj 16 (.bin .quo 15 (ci 8)),oj 17 (.ia 32 1 3 16),oj 18 (.ld 1 false 17),oj 19 (.mv 6),oj 20 (.bin .rem 19 (ci 8)),oj 21 (.bin .shr 18 20),oj 22 (.bin .and 21 (.const (.int .u8 1))),oj 23 (.bin .eql 22 (.const (.int .u8 1)))]
def Z0mu:List J:=[oj 24 (.ld 10 true 5),oj 25 (.ld 10 true 2),oj 26 (.call 104 [24,25]),on_ (.st 10 5 26)]
def Z08s:IC:=(.seq (.ops Z0ms) (.seq (.ops Z0mt) (.cond 23 (.ops Z0mu) .skip)))
def Z0mr:List J:=[oj 10 (.mv 6),oj 11 (.bin .sub 10 (ci 1)),oj 6 (.mv 11)]
def Z0az:IC:=(.seq (.seq (.ops Z0mq) (.cond 9 .skip (.exit 0))) (.seq (.block 1 Z08s) (.ops Z0mr)))
def Z08r:IC:=(.loop Z0az)
def Z0mv:List J:=[oj 27 (.ld 10 true 5),on_ (.st 10 4 27)]
def d170:FnD:=⟨28,[.cell 4 10 true],(.seq (.ops Z0mn) (.seq (.ops Z0mo) (.seq (.seq (.ops Z0mp) (.block 0 Z08r)) (.seq (.ops Z0mv) .ret))))⟩
theorem Z0z8:okF Tryz.prog 170 d170=true:=by kernel_rfl
def Z0mw:List J:=[oj 4 (.al 22 [.ints .u8 32 (List.replicate 32 0)])]
def Z0mx:List J:=[oj 5 (.al 22 [.ints .u8 32 (List.replicate 32 0)])]
def Z0my:List J:=[oj 6 (.mv (ci 0))]
def Z0mz:List J:=[oj 7 (.mv 6),oj 8 (.bin .lss 7 (ci 32))]
def Z0n1:List J:=[oj 11 (.mv 6),oj 12 (.ia 32 1 5 11),on_ (.st 1 12 (.const (.int .u8 255)))]
def Z08u:IC:=(.ops Z0n1)
def Z0n0:List J:=[oj 9 (.mv 6),oj 10 (.bin .add 9 (ci 1)),oj 6 (.mv 10)]
def Z0b0:IC:=(.seq (.seq (.ops Z0mz) (.cond 8 .skip (.exit 0))) (.seq (.block 1 Z08u) (.ops Z0n0)))
def Z08t:IC:=(.loop Z0b0)
def Z0n2:List J:=[oj 13 (.mv 0),oj 14 (.ia 32 1 5 (ci 0)),on_ (.st 1 14 13)]
def Z0n3:List J:=[oj 15 (.mv 1),oj 16 (.ia 32 1 5 (ci 31)),on_ (.st 1 16 15)]
def Z0n4:List J:=[oj 17 (.ld 32 true 5),on_ (.st 32 4 17)]
def d171:FnD:=⟨18,[.cell 4 32 true],(.seq (.ops Z0mw) (.seq (.ops Z0mx) (.seq (.seq (.ops Z0my) (.block 0 Z08t)) (.seq (.ops Z0n2) (.seq (.ops Z0n3) (.seq (.ops Z0n4) .ret))))))⟩
theorem Z0z9:okF Tryz.prog 171 d171=true:=by kernel_rfl
def Z0cd:List J:=[oj 1 (.bx 88 0),oj 2 (.al 88 [Z10])]
def Z0ce:Sch:=(.p [1] (oj 4 (.call 171 [(.const (.int .u8 235)),(.const (.int .u8 127))])) (.q [0] (oj 3 (.ld 10 true 1)) (.p [2] (oj 5 (.call 170 [3,4])) (.e 3 (oe (.st 10 2 5)) .nil))))
def d102:FnD:=⟨6,[.cell 2 10 true],(.seq (.ops Z0cd) (.seq (.draw Z0ce [3]) .ret))⟩
theorem Z0xn:okF Tryz.prog 102 d102=true:=by kernel_rfl
def Z0cf:List J:=[oj 1 (.bx 88 0),oj 2 (.al 22 [.ints .u8 32 (List.replicate 32 0)])]
def Z0cg:List J:=[oj 3 (.al 22 [.ints .u8 32 (List.replicate 32 0)])]
def Z0ch:List J:=[oj 4 (.mv (ci 0))]
def Z0ci:List J:=[oj 6 (.mv 4),oj 7 (.bin .lss 6 (ci 255))]
def Z0ck:List J:=[oj 10 (.mv 4),oj 11 (.bin .quo 10 (ci 26)),oj 12 (.ia 10 1 1 11),oj 13 (.ld 1 false 12),oj 14 (.mv 4),oj 15 (.bin .rem 14 (ci 26)),oj 16 (.bin .shr 13 15),oj 17 (.bin .and 16 (cu 1)),oj 18 (.conv .u8 17),oj 5 (.mv 18)]
def Z0cl:Sch:=(.p [0] (oj 19 (.mv 4)) (.p [1] (oj 20 (.bin .quo 19 (ci 8))) (.p [2] (oj 21 (.mv 4)) (.p [3] (oj 22 (.bin .quo 21 (ci 8))) (.p [4] (oj 23 (.ia 32 1 3 22)) (.p [6] (oj 25 (.mv 5)) (.p [7] (oj 26 (.mv 4)) (.p [8] (oj 27 (.bin .rem 26 (ci 8))) (.p [9] (oj 28 (.bin .shl 25 27)) (.q [5] (oj 24 (.ld 1 false 23)) (.p [10] (oj 29 (.bin .add 24 28)) (.p [11] (oj 30 (.ia 32 1 3 20)) (.e 12 (oe (.st 1 30 29)) .nil)))))))))))))
def Z06g:IC:=(.seq (.ops Z0ck) (.draw Z0cl [12]))
def Z0cj:List J:=[oj 8 (.mv 4),oj 9 (.bin .add 8 (ci 1)),oj 4 (.mv 9)]
def Z09t:IC:=(.seq (.seq (.ops Z0ci) (.cond 7 .skip (.exit 0))) (.seq (.block 1 Z06g) (.ops Z0cj)))
def Z06f:IC:=(.loop Z09t)
def Z0cm:List J:=[oj 31 (.ld 32 true 3),on_ (.st 32 2 31)]
def d103:FnD:=⟨32,[.cell 2 32 true],(.seq (.ops Z0cf) (.seq (.ops Z0cg) (.seq (.seq (.ops Z0ch) (.block 0 Z06f)) (.seq (.ops Z0cm) .ret))))⟩
theorem Z0xo:okF Tryz.prog 103 d103=true:=by kernel_rfl
def Z0cx:List J:=[oj 1 (.bx 88 0),oj 2 (.mv (.const (.bool false)))]
def Z0cy:List J:=[oj 3 (.ia 10 1 1 (ci 0)),oj 4 (.ld 1 false 3),oj 5 (.bin .and 4 (cu 1)),oj 6 (.bin .eql 5 (cu 1)),oj 2 (.mv 6)]
def d105:FnD:=⟨7,[.tmp 2],(.seq (.ops Z0cx) (.seq (.ops Z0cy) .ret))⟩
theorem Z0xq:okF Tryz.prog 105 d105=true:=by kernel_rfl
def Z13a:List J:=[oj 1 (.bx 90 0),oj 2 (.al 29 [.ints .u8 32 (List.replicate 32 0)])]
def Z13b:List J:=[oj 5 (.fa 20 1),oj 6 (.ld 10 true 5),oj 7 (.call 102 [6]),oj 3 (.al 88 [Z10]),on_ (.st 10 3 7)]
def Z13c:List J:=[oj 8 (.fa 10 1),oj 9 (.ld 10 true 8),oj 10 (.ld 10 true 3),oj 11 (.call 104 [9,10]),oj 12 (.call 103 [11]),oj 4 (.al 22 [.ints .u8 32 (List.replicate 32 0)]),on_ (.st 32 4 12)]
def Z13d:List J:=[oj 13 (.fa 0 1),oj 14 (.ld 10 true 13),oj 15 (.ld 10 true 3),oj 16 (.call 104 [14,15]),oj 17 (.call 105 [16])]
def Z13e:List J:=[oj 18 (.ia 32 1 4 (ci 31)),oj 19 (.ld 1 false 18),oj 20 (.bin .add 19 (.const (.int .u8 128))),oj 21 (.ia 32 1 4 (ci 31)),on_ (.st 1 21 20)]
def Z13f:List J:=[oj 22 (.ld 32 true 4),on_ (.st 32 2 22)]
def d54:FnD:=⟨23,[.cell 2 32 true],(.seq (.ops Z13a) (.seq (.ops Z13b) (.seq (.ops Z13c) (.seq (.seq (.ops Z13d) (.cond 17 (.ops Z13e) .skip)) (.seq (.ops Z13f) .ret)))))⟩
theorem ok54:okF Tryz.prog 54 d54=true:=by kernel_rfl
def Z0ib:List J:=[oj 1 (.bx 88 0),oj 2 (.al 88 [Z10])]
def Z0ic:Sch:=(.p [0] (oj 3 (.call 198 [])) (.q [1] (oj 4 (.ld 10 true 1)) (.p [2] (oj 5 (.call 197 [3,4])) (.p [3] (oj 6 (.call 172 [5])) (.e 4 (oe (.st 10 2 6)) .nil)))))
def d142:FnD:=⟨7,[.cell 2 10 true],(.seq (.ops Z0ib) (.seq (.draw Z0ic [4]) .ret))⟩
theorem Z0yj:okF Tryz.prog 142 d142=true:=by kernel_rfl
def Z0pn:List J:=[oj 2 (.bx 88 0),oj 3 (.bx 88 1),oj 4 (.al 88 [Z10])]
def Z0po:List J:=[oj 5 (.mv (ci 0))]
def Z0pp:List J:=[oj 6 (.mv 5),oj 7 (.bin .lss 6 (ci 10))]
def Z0pr:Sch:=(.p [0] (oj 10 (.mv 5)) (.p [1] (oj 11 (.mv 5)) (.p [2] (oj 12 (.ia 10 1 2 11)) (.p [4] (oj 14 (.mv 5)) (.p [5] (oj 15 (.ia 10 1 3 14)) (.q [3] (oj 13 (.ld 1 false 12)) (.q [6] (oj 16 (.ld 1 false 15)) (.p [7] (oj 17 (.bin .add 13 16)) (.p [8] (oj 18 (.ia 10 1 2 10)) (.e 9 (oe (.st 1 18 17)) .nil))))))))))
def Z09a:IC:=(.draw Z0pr [9])
def Z0pq:List J:=[oj 8 (.mv 5),oj 9 (.bin .add 8 (ci 1)),oj 5 (.mv 9)]
def Z0b8:IC:=(.seq (.seq (.ops Z0pp) (.cond 7 .skip (.exit 0))) (.seq (.block 1 Z09a) (.ops Z0pq)))
def Z099:IC:=(.loop Z0b8)
def Z0ps:List J:=[oj 19 (.ld 10 true 2),oj 20 (.call 172 [19]),on_ (.st 10 4 20)]
def d194:FnD:=⟨21,[.cell 4 10 true],(.seq (.ops Z0pn) (.seq (.seq (.ops Z0po) (.block 0 Z099)) (.seq (.ops Z0ps) .ret)))⟩
theorem Z0zq:okF Tryz.prog 194 d194=true:=by kernel_rfl
def Z0pl:List J:=[oj 2 (.bx 88 0),oj 3 (.bx 88 1),oj 4 (.al 88 [Z10])]
def Z0pm:Sch:=(.q [0] (oj 5 (.ld 10 true 2)) (.q [1] (oj 6 (.ld 10 true 3)) (.p [2] (oj 7 (.call 142 [6])) (.p [3] (oj 8 (.call 194 [5,7])) (.e 4 (oe (.st 10 4 8)) .nil)))))
def d193:FnD:=⟨9,[.cell 4 10 true],(.seq (.ops Z0pl) (.seq (.draw Z0pm [4]) .ret))⟩
theorem Z0zp:okF Tryz.prog 193 d193=true:=by kernel_rfl
def Z0hw:List J:=[oj 1 (.bx 22 0),oj 2 (.al 88 [Z10])]
def Z0hx:List J:=[oj 3 (.al 88 [Z10])]
def Z0hy:List J:=[oj 4 (.mv (ci 0))]
def Z0hz:List J:=[oj 6 (.mv 4),oj 7 (.bin .lss 6 (ci 255))]
def Z0i1:List J:=[oj 10 (.mv 4),oj 11 (.bin .quo 10 (ci 8)),oj 12 (.ia 32 1 1 11),oj 13 (.ld 1 false 12),oj 14 (.mv 4),oj 15 (.bin .rem 14 (ci 8)),oj 16 (.bin .shr 13 15),oj 17 (.bin .and 16 (.const (.int .u8 1))),oj 18 (.conv .u64 17),oj 5 (.mv 18)]
def Z0i2:Sch:=(.p [0] (oj 19 (.mv 4)) (.p [1] (oj 20 (.bin .quo 19 (ci 26))) (.p [2] (oj 21 (.mv 4)) (.p [3] (oj 22 (.bin .quo 21 (ci 26))) (.p [4] (oj 23 (.ia 10 1 3 22)) (.p [6] (oj 25 (.mv 5)) (.p [7] (oj 26 (.mv 4)) (.p [8] (oj 27 (.bin .rem 26 (ci 26))) (.p [9] (oj 28 (.bin .shl 25 27)) (.q [5] (oj 24 (.ld 1 false 23)) (.p [10] (oj 29 (.bin .add 24 28)) (.p [11] (oj 30 (.ia 10 1 3 20)) (.e 12 (oe (.st 1 30 29)) .nil)))))))))))))
def Z07u:IC:=(.seq (.ops Z0i1) (.draw Z0i2 [12]))
def Z0i0:List J:=[oj 8 (.mv 4),oj 9 (.bin .add 8 (ci 1)),oj 4 (.mv 9)]
def Z0ai:IC:=(.seq (.seq (.ops Z0hz) (.cond 7 .skip (.exit 0))) (.seq (.block 1 Z07u) (.ops Z0i0)))
def Z07t:IC:=(.loop Z0ai)
def Z0i3:List J:=[oj 31 (.ld 10 true 3),oj 32 (.call 172 [31]),on_ (.st 10 2 32)]
def d139:FnD:=⟨33,[.cell 2 10 true],(.seq (.ops Z0hw) (.seq (.ops Z0hx) (.seq (.seq (.ops Z0hy) (.block 0 Z07t)) (.seq (.ops Z0i3) .ret))))⟩
theorem Z0yg:okF Tryz.prog 139 d139=true:=by kernel_rfl
def Z0pt:List J:=[oj 0 (.al 88 [Z10])]
def Z0pu:List J:=[oj 1 (.bd [.ints .u8 32 (List.replicate 32 0)] [(0,1,(.const (.int .u8 163))),(1,1,(.const (.int .u8 120))),(2,1,(.const (.int .u8 89))),(3,1,(.const (.int .u8 19))),(4,1,(.const (.int .u8 202))),(5,1,(.const (.int .u8 77))),(6,1,(.const (.int .u8 235))),(7,1,(.const (.int .u8 117))),(8,1,(.const (.int .u8 171))),(9,1,(.const (.int .u8 216))),(10,1,(.const (.int .u8 65))),(11,1,(.const (.int .u8 65))),(12,1,(.const (.int .u8 77))),(13,1,(.const (.int .u8 10))),(14,1,(.const (.int .u8 112))),(15,1,(.const (.int .u8 0))),(16,1,(.const (.int .u8 152))),(17,1,(.const (.int .u8 232))),(18,1,(.const (.int .u8 121))),(19,1,(.const (.int .u8 119))),(20,1,(.const (.int .u8 121))),(21,1,(.const (.int .u8 64))),(22,1,(.const (.int .u8 199))),(23,1,(.const (.int .u8 140))),(24,1,(.const (.int .u8 115))),(25,1,(.const (.int .u8 254))),(26,1,(.const (.int .u8 111))),(27,1,(.const (.int .u8 43))),(28,1,(.const (.int .u8 238))),(29,1,(.const (.int .u8 108))),(30,1,(.const (.int .u8 3))),(31,1,(.const (.int .u8 82)))]),oj 2 (.call 139 [1]),on_ (.st 10 0 2)]
def d195:FnD:=⟨3,[.cell 0 10 true],(.seq (.ops Z0pt) (.seq (.ops Z0pu) .ret))⟩
theorem Z0zr:okF Tryz.prog 195 d195=true:=by kernel_rfl
def Z0io:List J:=[oj 2 (.bx 90 0),oj 3 (.bx 90 1),oj 4 (.al 90 [Z10,Z10,Z10])]
def Z0ip:List J:=[oj 15 (.fa 20 2),oj 16 (.ld 10 true 15),oj 17 (.fa 20 3),oj 18 (.ld 10 true 17),oj 19 (.call 104 [16,18]),oj 5 (.al 88 [Z10]),on_ (.st 10 5 19)]
def Z0iq:List J:=[oj 20 (.ld 10 true 5),oj 21 (.ld 10 true 5),oj 22 (.call 104 [20,21]),oj 6 (.al 88 [Z10]),on_ (.st 10 6 22)]
def Z0ir:List J:=[oj 23 (.fa 0 2),oj 24 (.ld 10 true 23),oj 25 (.fa 0 3),oj 26 (.ld 10 true 25),oj 27 (.call 104 [24,26]),oj 7 (.al 88 [Z10]),on_ (.st 10 7 27)]
def Z0is:List J:=[oj 28 (.fa 10 2),oj 29 (.ld 10 true 28),oj 30 (.fa 10 3),oj 31 (.ld 10 true 30),oj 32 (.call 104 [29,31]),oj 8 (.al 88 [Z10]),on_ (.st 10 8 32)]
def Z0it:Sch:=(.p [0] (oj 33 (.call 195 [])) (.q [1] (oj 34 (.ld 10 true 7)) (.q [2] (oj 35 (.ld 10 true 8)) (.p [3] (oj 36 (.call 104 [34,35])) (.p [4] (oj 37 (.call 104 [33,36])) (.e 5 (oi 9 (.al 88 [Z10])) (.e 6 (oe (.st 10 9 37)) .nil)))))))
def Z0iu:List J:=[oj 38 (.ld 10 true 6),oj 39 (.ld 10 true 9),oj 40 (.call 193 [38,39]),oj 10 (.al 88 [Z10]),on_ (.st 10 10 40)]
def Z0iv:List J:=[oj 41 (.ld 10 true 6),oj 42 (.ld 10 true 9),oj 43 (.call 194 [41,42]),oj 11 (.al 88 [Z10]),on_ (.st 10 11 43)]
def Z0iw:Sch:=(.p [0] (oj 44 (.fa 0 2)) (.p [2] (oj 46 (.fa 10 3)) (.p [5] (oj 49 (.fa 10 2)) (.p [7] (oj 51 (.fa 0 3)) (.q [1] (oj 45 (.ld 10 true 44)) (.q [3] (oj 47 (.ld 10 true 46)) (.p [4] (oj 48 (.call 104 [45,47])) (.q [6] (oj 50 (.ld 10 true 49)) (.q [8] (oj 52 (.ld 10 true 51)) (.p [9] (oj 53 (.call 104 [50,52])) (.p [10] (oj 54 (.call 194 [48,53])) (.e 11 (oi 12 (.al 88 [Z10])) (.e 12 (oe (.st 10 12 54)) .nil)))))))))))))
def Z0ix:Sch:=(.q [0] (oj 55 (.ld 10 true 5)) (.q [1] (oj 56 (.ld 10 true 10)) (.p [2] (oj 57 (.call 104 [55,56])) (.q [3] (oj 58 (.ld 10 true 12)) (.p [4] (oj 59 (.call 104 [57,58])) (.e 5 (oi 13 (.al 88 [Z10])) (.e 6 (oe (.st 10 13 59)) .nil)))))))
def Z03l:Sch:=(.q [0] (oj 60 (.ld 10 true 5)) (.q [1] (oj 61 (.ld 10 true 11)) (.p [2] (oj 62 (.call 104 [60,61])) (.q [3] (oj 63 (.ld 10 true 8)) (.q [4] (oj 64 (.ld 10 true 7)) (.p [5] (oj 65 (.call 194 [63,64])) (.p [6] (oj 66 (.call 104 [62,65])) (.e 7 (oi 14 (.al 88 [Z10])) (.e 8 (oe (.st 10 14 66)) .nil)))))))))
def Z03m:Sch:=(.q [0] (oj 67 (.ld 10 true 13)) (.q [1] (oj 68 (.ld 10 true 14)) (.q [2] (oj 69 (.ld 10 true 10)) (.q [3] (oj 70 (.ld 10 true 11)) (.p [4] (oj 71 (.call 104 [69,70])) (.p [5] (oj 72 (.bd [Z10,Z10,Z10] [(0,10,67),(10,10,68),(20,10,71)])) (.e 6 (oe (.st 30 4 72)) .nil)))))))
def d146:FnD:=⟨73,[.cell 4 30 true],(.seq (.ops Z0io) (.seq (.ops Z0ip) (.seq (.ops Z0iq) (.seq (.ops Z0ir) (.seq (.ops Z0is) (.seq (.draw Z0it [6]) (.seq (.ops Z0iu) (.seq (.ops Z0iv) (.seq (.draw Z0iw [12]) (.seq (.draw Z0ix [6]) (.seq (.draw Z03l [8]) (.seq (.draw Z03m [6]) .ret))))))))))))⟩
theorem Z0yn:okF Tryz.prog 146 d146=true:=by kernel_rfl
def Z0nn:List J:=[oj 0 (.al 90 [Z10,Z10,Z10])]
def Z0no:List J:=[oj 1 (.call 176 [(cu 0)]),oj 2 (.call 176 [(cu 1)]),oj 3 (.call 176 [(cu 1)]),oj 4 (.bd [Z10,Z10,Z10] [(0,10,1),(10,10,2),(20,10,3)]),on_ (.st 30 0 4)]
def d174:FnD:=⟨5,[.cell 0 30 true],(.seq (.ops Z0nn) (.seq (.ops Z0no) .ret))⟩
theorem Z0zc:okF Tryz.prog 174 d174=true:=by kernel_rfl
def Z0nf:List J:=[oj 1 (.bx 90 0),oj 2 (.al 206 [.rows 30 16 (fun _=>cells [Z10,Z10,Z10])])]
def Z0ng:List J:=[oj 3 (.al 206 [.rows 30 16 (fun _=>cells [Z10,Z10,Z10])])]
def Z0nh:List J:=[oj 5 (.call 174 []),oj 6 (.ia 16 30 3 (ci 0)),on_ (.st 30 6 5)]
def Z0ni:List J:=[oj 4 (.mv (ci 1))]
def Z0nj:List J:=[oj 7 (.mv 4),oj 8 (.bin .lss 7 (ci 16))]
def Z0nl:Sch:=(.p [0] (oj 11 (.mv 4)) (.p [1] (oj 12 (.mv 4)) (.p [2] (oj 13 (.bin .sub 12 (ci 1))) (.p [3] (oj 14 (.ia 16 30 3 13)) (.q [4] (oj 15 (.ld 30 true 14)) (.q [5] (oj 16 (.ld 30 true 1)) (.p [6] (oj 17 (.call 146 [15,16])) (.p [7] (oj 18 (.ia 16 30 3 11)) (.e 8 (oe (.st 30 18 17)) .nil)))))))))
def Z08y:IC:=(.draw Z0nl [8])
def Z0nk:List J:=[oj 9 (.mv 4),oj 10 (.bin .add 9 (ci 1)),oj 4 (.mv 10)]
def Z0b2:IC:=(.seq (.seq (.ops Z0nj) (.cond 8 .skip (.exit 0))) (.seq (.block 1 Z08y) (.ops Z0nk)))
def Z08x:IC:=(.loop Z0b2)
def Z0nm:List J:=[oj 19 (.ld 480 true 3),on_ (.st 480 2 19)]
def d173:FnD:=⟨20,[.cell 2 480 true],(.seq (.ops Z0nf) (.seq (.ops Z0ng) (.seq (.ops Z0nh) (.seq (.seq (.ops Z0ni) (.block 0 Z08x)) (.seq (.ops Z0nm) .ret)))))⟩
theorem Z0zb:okF Tryz.prog 173 d173=true:=by kernel_rfl
def Z0np:List J:=[oj 1 (.bx 90 0),oj 2 (.al 90 [Z10,Z10,Z10])]
def Z0nq:List J:=[oj 11 (.fa 0 1),oj 12 (.ld 10 true 11),oj 13 (.fa 0 1),oj 14 (.ld 10 true 13),oj 15 (.call 104 [12,14]),oj 3 (.al 88 [Z10]),on_ (.st 10 3 15)]
def Z0nr:List J:=[oj 16 (.fa 10 1),oj 17 (.ld 10 true 16),oj 18 (.fa 10 1),oj 19 (.ld 10 true 18),oj 20 (.call 104 [17,19]),oj 4 (.al 88 [Z10]),on_ (.st 10 4 20)]
def Z0ns:List J:=[oj 21 (.fa 20 1),oj 22 (.ld 10 true 21),oj 23 (.fa 20 1),oj 24 (.ld 10 true 23),oj 25 (.call 104 [22,24]),oj 5 (.al 88 [Z10]),on_ (.st 10 5 25)]
def Z0nt:List J:=[oj 26 (.ld 10 true 4),oj 27 (.ld 10 true 3),oj 28 (.call 193 [26,27]),oj 6 (.al 88 [Z10]),on_ (.st 10 6 28)]
def Z0nu:Sch:=(.q [0] (oj 29 (.ld 10 true 5)) (.q [1] (oj 30 (.ld 10 true 5)) (.p [2] (oj 31 (.call 194 [29,30])) (.q [3] (oj 32 (.ld 10 true 6)) (.p [4] (oj 33 (.call 193 [31,32])) (.e 5 (oi 7 (.al 88 [Z10])) (.e 6 (oe (.st 10 7 33)) .nil)))))))
def Z0nv:List J:=[oj 34 (.fa 0 1),oj 35 (.ld 10 true 34),oj 36 (.fa 10 1),oj 37 (.ld 10 true 36),oj 38 (.call 104 [35,37]),oj 8 (.al 88 [Z10]),on_ (.st 10 8 38)]
def Z0nw:Sch:=(.q [0] (oj 39 (.ld 10 true 8)) (.q [1] (oj 40 (.ld 10 true 8)) (.p [2] (oj 41 (.call 194 [39,40])) (.q [3] (oj 42 (.ld 10 true 7)) (.p [4] (oj 43 (.call 104 [41,42])) (.e 5 (oi 9 (.al 88 [Z10])) (.e 6 (oe (.st 10 9 43)) .nil)))))))
def Z0nx:Sch:=(.q [0] (oj 44 (.ld 10 true 3)) (.q [1] (oj 45 (.ld 10 true 4)) (.p [2] (oj 46 (.call 194 [44,45])) (.q [3] (oj 47 (.ld 10 true 6)) (.p [4] (oj 48 (.call 104 [46,47])) (.e 5 (oi 10 (.al 88 [Z10])) (.e 6 (oe (.st 10 10 48)) .nil)))))))
def Z0ny:Sch:=(.q [0] (oj 49 (.ld 10 true 9)) (.q [1] (oj 50 (.ld 10 true 10)) (.q [2] (oj 51 (.ld 10 true 6)) (.q [3] (oj 52 (.ld 10 true 7)) (.p [4] (oj 53 (.call 104 [51,52])) (.p [5] (oj 54 (.bd [Z10,Z10,Z10] [(0,10,49),(10,10,50),(20,10,53)])) (.e 6 (oe (.st 30 2 54)) .nil)))))))
def d175:FnD:=⟨55,[.cell 2 30 true],(.seq (.ops Z0np) (.seq (.ops Z0nq) (.seq (.ops Z0nr) (.seq (.ops Z0ns) (.seq (.ops Z0nt) (.seq (.draw Z0nu [6]) (.seq (.ops Z0nv) (.seq (.draw Z0nw [6]) (.seq (.draw Z0nx [6]) (.seq (.draw Z0ny [6]) .ret))))))))))⟩
theorem Z0zd:okF Tryz.prog 175 d175=true:=by kernel_rfl
def Z0cz:List J:=[oj 2 (.bx 74 0),oj 3 (.bx 90 1),oj 4 (.al 90 [Z10,Z10,Z10])]
def Z0d0:List J:=[oj 8 (.ld 30 true 3),oj 9 (.call 173 [8]),oj 5 (.al 206 [.rows 30 16 (fun _=>cells [Z10,Z10,Z10])]),on_ (.st 480 5 9)]
def Z0d1:List J:=[oj 10 (.call 174 []),oj 6 (.al 90 [Z10,Z10,Z10]),on_ (.st 30 6 10)]
def Z0d2:List J:=[oj 7 (.mv (ci 31))]
def Z0d3:List J:=[oj 11 (.mv 7),oj 12 (.bin .geq 11 (ci 0))]
def Z0d5:Sch:=(.p [5] (oj 20 (.mv 7)) (.p [6] (oj 21 (.ia 32 1 2 20)) (.q [0] (oj 15 (.ld 30 true 6)) (.p [1] (oj 16 (.call 175 [15])) (.p [2] (oj 17 (.call 175 [16])) (.p [3] (oj 18 (.call 175 [17])) (.p [4] (oj 19 (.call 175 [18])) (.q [7] (oj 22 (.ld 1 false 21)) (.p [8] (oj 23 (.bin .quo 22 (.const (.int .u8 16)))) (.p [9] (oj 24 (.ia 16 30 5 23)) (.q [10] (oj 25 (.ld 30 true 24)) (.p [11] (oj 26 (.call 146 [19,25])) (.e 12 (oe (.st 30 6 26)) .nil)))))))))))))
def Z0d6:Sch:=(.p [5] (oj 32 (.mv 7)) (.p [6] (oj 33 (.ia 32 1 2 32)) (.q [0] (oj 27 (.ld 30 true 6)) (.p [1] (oj 28 (.call 175 [27])) (.p [2] (oj 29 (.call 175 [28])) (.p [3] (oj 30 (.call 175 [29])) (.p [4] (oj 31 (.call 175 [30])) (.q [7] (oj 34 (.ld 1 false 33)) (.p [8] (oj 35 (.bin .rem 34 (.const (.int .u8 16)))) (.p [9] (oj 36 (.ia 16 30 5 35)) (.q [10] (oj 37 (.ld 30 true 36)) (.p [11] (oj 38 (.call 146 [31,37])) (.e 12 (oe (.st 30 6 38)) .nil)))))))))))))
def Z06q:IC:=(.seq (.draw Z0d5 [12]) (.draw Z0d6 [12]))
def Z0d4:List J:=[oj 13 (.mv 7),oj 14 (.bin .sub 13 (ci 1)),oj 7 (.mv 14)]
def Z09y:IC:=(.seq (.seq (.ops Z0d3) (.cond 12 .skip (.exit 0))) (.seq (.block 1 Z06q) (.ops Z0d4)))
def Z06p:IC:=(.loop Z09y)
def Z0d7:List J:=[oj 39 (.ld 30 true 6),on_ (.st 30 4 39)]
def d106:FnD:=⟨40,[.cell 4 30 true],(.seq (.ops Z0cz) (.seq (.ops Z0d0) (.seq (.ops Z0d1) (.seq (.seq (.ops Z0d2) (.block 0 Z06p)) (.seq (.ops Z0d7) .ret)))))⟩
theorem Z0xr:okF Tryz.prog 106 d106=true:=by kernel_rfl
def Z0i9:List J:=[oj 1 (.bx 88 0),oj 2 (.mv (.const (.bool false)))]
def Z0ia:List J:=[oj 3 (.ld 10 true 1),oj 4 (.bd [Z10] []),oj 5 (.eqa false [(.i .u64,10)] 3 4),oj 2 (.mv 5)]
def d141:FnD:=⟨6,[.tmp 2],(.seq (.ops Z0i9) (.seq (.ops Z0ia) .ret))⟩
theorem Z0yi:okF Tryz.prog 141 d141=true:=by kernel_rfl
def Z0sq:List J:=[oj 1 (.bx 88 0),oj 2 (.al 88 [Z10])]
def Z0sr:List J:=[oj 3 (.ld 10 true 1),oj 4 (.call 105 [3])]
def Z0ss:List J:=[oj 5 (.ld 10 true 1),oj 6 (.call 142 [5]),on_ (.st 10 2 6)]
def Z0st:List J:=[oj 7 (.ld 10 true 1),on_ (.st 10 2 7)]
def d217:FnD:=⟨8,[.cell 2 10 true],(.seq (.ops Z0sq) (.seq (.seq (.ops Z0sr) (.cond 4 (.seq (.ops Z0ss) .ret) .skip)) (.seq (.ops Z0st) .ret)))⟩
theorem Z109:okF Tryz.prog 217 d217=true:=by kernel_rfl
def Z0pv:List J:=[oj 2 (.bx 88 0),oj 3 (.bx 88 1),oj 4 (.al 88 [Z10]),oj 5 (.mv (.const (.bool false)))]
def Z0pw:List J:=[oj 8 (.ld 10 true 3),oj 9 (.call 141 [8])]
def Z0px:List J:=[oj 10 (.bd [Z10] []),oj 11 (.ld 10 true 2),oj 12 (.call 141 [11]),on_ (.st 10 4 10),oj 5 (.mv 12)]
def Z0py:Sch:=(.q [0] (oj 13 (.ld 10 true 2)) (.q [1] (oj 14 (.ld 10 true 3)) (.p [2] (oj 15 (.call 102 [14])) (.p [3] (oj 16 (.call 104 [13,15])) (.e 4 (oi 6 (.al 88 [Z10])) (.e 5 (oe (.st 10 6 16)) .nil))))))
def Z0pz:Sch:=(.p [1] (oj 18 (.call 171 [(.const (.int .u8 254)),(.const (.int .u8 15))])) (.q [0] (oj 17 (.ld 10 true 6)) (.p [2] (oj 19 (.call 170 [17,18])) (.e 3 (oi 7 (.al 88 [Z10])) (.e 4 (oe (.st 10 7 19)) .nil)))))
def Z0q0:Sch:=(.q [0] (oj 20 (.ld 10 true 7)) (.q [1] (oj 21 (.ld 10 true 7)) (.p [2] (oj 22 (.call 104 [20,21])) (.q [3] (oj 23 (.ld 10 true 6)) (.p [4] (oj 24 (.eqa false [(.i .u64,10)] 22 23)) .nil)))))
def Z0q1:List J:=[oj 25 (.ld 10 true 7),oj 26 (.call 217 [25]),on_ (.st 10 4 26),oj 5 (.mv (.const (.bool true)))]
def Z0q2:Sch:=(.p [1] (oj 28 (.call 176 [(cu 2)])) (.p [2] (oj 29 (.call 171 [(.const (.int .u8 251)),(.const (.int .u8 31))])) (.p [3] (oj 30 (.call 170 [28,29])) (.q [0] (oj 27 (.ld 10 true 7)) (.p [4] (oj 31 (.call 104 [27,30])) (.e 5 (oe (.st 10 7 31)) .nil))))))
def Z0q3:Sch:=(.q [0] (oj 32 (.ld 10 true 7)) (.q [1] (oj 33 (.ld 10 true 7)) (.p [2] (oj 34 (.call 104 [32,33])) (.q [3] (oj 35 (.ld 10 true 6)) (.p [4] (oj 36 (.eqa false [(.i .u64,10)] 34 35)) .nil)))))
def Z0q4:List J:=[oj 37 (.ld 10 true 7),oj 38 (.call 217 [37]),on_ (.st 10 4 38),oj 5 (.mv (.const (.bool true)))]
def Z04h:List J:=[oj 39 (.bd [Z10] []),on_ (.st 10 4 39),oj 5 (.mv (.const (.bool false)))]
def d196:FnD:=⟨40,[.cell 4 10 true,.tmp 5],(.seq (.ops Z0pv) (.seq (.seq (.ops Z0pw) (.cond 9 (.seq (.ops Z0px) .ret) .skip)) (.seq (.draw Z0py [5]) (.seq (.draw Z0pz [4]) (.seq (.seq (.draw Z0q0 []) (.cond 24 (.seq (.ops Z0q1) .ret) .skip)) (.seq (.draw Z0q2 [5]) (.seq (.seq (.draw Z0q3 []) (.cond 36 (.seq (.ops Z0q4) .ret) .skip)) (.seq (.ops Z04h) .ret))))))))⟩
theorem Z0zs:okF Tryz.prog 196 d196=true:=by kernel_rfl
def Z0i4:List J:=[oj 1 (.bx 88 0),oj 2 (.al 88 [Z10]),oj 3 (.mv (.const (.bool false)))]
def Z0i5:List J:=[oj 7 (.ld 10 true 1),oj 8 (.ld 10 true 1),oj 9 (.call 104 [7,8]),oj 4 (.al 88 [Z10]),on_ (.st 10 4 9)]
def Z0i6:Sch:=(.p [1] (oj 11 (.call 176 [(cu 1)])) (.q [0] (oj 10 (.ld 10 true 4)) (.p [2] (oj 12 (.call 193 [10,11])) (.e 3 (oi 5 (.al 88 [Z10])) (.e 4 (oe (.st 10 5 12)) .nil)))))
def Z0i7:Sch:=(.p [0] (oj 13 (.call 195 [])) (.q [1] (oj 14 (.ld 10 true 4)) (.p [2] (oj 15 (.call 104 [13,14])) (.p [3] (oj 16 (.call 176 [(cu 1)])) (.p [4] (oj 17 (.call 194 [15,16])) (.e 5 (oi 6 (.al 88 [Z10])) (.e 6 (oe (.st 10 6 17)) .nil)))))))
def Z0i8:List J:=[oj 18 (.ld 10 true 5),oj 19 (.ld 10 true 6),oj 20 (.call 196 [18,19]),oj 21 (.ext 20 0),oj 22 (.ext 20 1),on_ (.st 10 2 21),oj 3 (.mv 22)]
def d140:FnD:=⟨23,[.cell 2 10 true,.tmp 3],(.seq (.ops Z0i4) (.seq (.ops Z0i5) (.seq (.draw Z0i6 [4]) (.seq (.draw Z0i7 [6]) (.seq (.ops Z0i8) .ret)))))⟩
theorem Z0yh:okF Tryz.prog 140 d140=true:=by kernel_rfl
def Z0id:List J:=[oj 2 (.bx 88 0),oj 3 (.bx 88 1),oj 4 (.al 90 [Z10,Z10,Z10])]
def Z0ie:Sch:=(.p [2] (oj 7 (.call 176 [(cu 1)])) (.q [0] (oj 5 (.ld 10 true 2)) (.q [1] (oj 6 (.ld 10 true 3)) (.p [3] (oj 8 (.bd [Z10,Z10,Z10] [(0,10,5),(10,10,6),(20,10,7)])) (.e 4 (oe (.st 30 4 8)) .nil)))))
def d143:FnD:=⟨9,[.cell 4 30 true],(.seq (.ops Z0id) (.seq (.draw Z0ie [4]) .ret))⟩
theorem Z0yk:okF Tryz.prog 143 d143=true:=by kernel_rfl
def Z0d8:List J:=[oj 0 (.al 90 [Z10,Z10,Z10])]
def Z0d9:List J:=[oj 4 (.call 176 [(cu 4)]),oj 5 (.call 176 [(cu 5)]),oj 6 (.call 102 [5]),oj 7 (.call 104 [4,6]),oj 1 (.al 88 [Z10]),on_ (.st 10 1 7)]
def Z0da:List J:=[oj 9 (.ld 10 true 1),oj 10 (.call 140 [9]),oj 8 (.mv 10),oj 11 (.ext 8 0),oj 12 (.ext 8 1),oj 2 (.al 88 [Z10]),on_ (.st 10 2 11),oj 3 (.mv 12)]
def Z0db:List J:=[oj 13 (.ld 10 true 2),oj 14 (.ld 10 true 1),oj 15 (.call 143 [13,14]),on_ (.st 30 0 15)]
def d107:FnD:=⟨16,[.cell 0 30 true],(.seq (.ops Z0d8) (.seq (.ops Z0d9) (.seq (.ops Z0da) (.seq (.ops Z0db) .ret))))⟩
theorem Z0xs:okF Tryz.prog 107 d107=true:=by kernel_rfl
def Z13g:List J:=[oj 1 (.bx 74 0),oj 2 (.al 90 [Z10,Z10,Z10])]
def Z13h:Sch:=(.p [1] (oj 4 (.call 107 [])) (.q [0] (oj 3 (.ld 32 true 1)) (.p [2] (oj 5 (.call 106 [3,4])) (.e 3 (oe (.st 30 2 5)) .nil))))
def d55:FnD:=⟨6,[.cell 2 30 true],(.seq (.ops Z13g) (.seq (.draw Z13h [3]) .ret))⟩
theorem ok55:okF Tryz.prog 55 d55=true:=by kernel_rfl
def Z13l:List J:=[oj 2 (.bx 94 0),oj 4 (.al 22 [.ints .u8 32 (List.replicate 32 0)])]
def Z13m:List J:=[oj 5 (.al 22 [.ints .u8 32 (List.replicate 32 0)])]
def Z13n:List J:=[oj 6 (.mv (ci 0))]
def Z13o:List J:=[oj 7 (.mv 6),oj 8 (.bin .lss 7 (ci 32))]
def Z13q:List J:=[oj 11 (.mv 6),oj 12 (.mv 6),oj 13 (.ia 64 1 2 12),oj 14 (.ld 1 false 13),oj 15 (.ia 32 1 5 11),on_ (.st 1 15 14)]
def Z13r:List J:=[oj 16 (.mv 1)]
def Z13s:List J:=[oj 17 (.mv 6),oj 18 (.mv 6),oj 19 (.bin .add (ci 32) 18),oj 20 (.ia 64 1 2 19),oj 21 (.ld 1 false 20),oj 22 (.ia 32 1 5 17),on_ (.st 1 22 21)]
def Z0w9:IC:=(.seq (.ops Z13q) (.seq (.ops Z13r) (.cond 16 (.ops Z13s) .skip)))
def Z13p:List J:=[oj 9 (.mv 6),oj 10 (.bin .add 9 (ci 1)),oj 6 (.mv 10)]
def Z0x6:IC:=(.seq (.seq (.ops Z13o) (.cond 8 .skip (.exit 0))) (.seq (.block 1 Z0w9) (.ops Z13p)))
def Z0w8:IC:=(.loop Z0x6)
def Z13t:List J:=[oj 23 (.ld 32 true 5),on_ (.st 32 4 23)]
def d57:FnD:=⟨24,[.cell 4 32 true],(.seq (.ops Z13l) (.seq (.ops Z13m) (.seq (.seq (.ops Z13n) (.block 0 Z0w8)) (.seq (.ops Z13t) .ret))))⟩
theorem ok57:okF Tryz.prog 57 d57=true:=by kernel_rfl
def Z0e2:List J:=[oj 2 (.mv (.const (.slice none 0 0)))]
def Z0e3:List J:=[oj 3 (.mv (.const (.slice none 0 0)))]
def Z0e4:List J:=[oj 4 (.mv (ci 0))]
def Z0e5:List J:=[oj 6 (.mv 4),oj 7 (.bin .lss 6 (ci 8))]
def Z0e7:List J:=[oj 10 (.mv 4),oj 11 (.bin .mul (ci 8) 10),oj 12 (.bin .sub (ci 56) 11),oj 13 (.conv .u64 12),oj 5 (.mv 13)]
def Z0e8:List J:=[oj 14 (.mv 3),oj 15 (.mv 0),oj 16 (.mv 5),oj 17 (.bin .shr 15 16),oj 18 (.conv .u8 17),oj 19 (.bs 5 1 1 [.one (.int .u8 0)] [(0,1,18)]),oj 20 (.app 5 1 1 [.one (.int .u8 0)] 14 19),oj 3 (.mv 20)]
def Z070:IC:=(.seq (.ops Z0e7) (.ops Z0e8))
def Z0e6:List J:=[oj 8 (.mv 4),oj 9 (.bin .add 8 (ci 1)),oj 4 (.mv 9)]
def Z0a3:IC:=(.seq (.seq (.ops Z0e5) (.cond 7 .skip (.exit 0))) (.seq (.block 1 Z070) (.ops Z0e6)))
def Z06z:IC:=(.loop Z0a3)
def Z0e9:List J:=[oj 21 (.mv 3),oj 2 (.mv 21)]
def d111:FnD:=⟨22,[.tmp 2],(.seq (.ops Z0e2) (.seq (.ops Z0e3) (.seq (.seq (.ops Z0e4) (.block 0 Z06z)) (.seq (.ops Z0e9) .ret))))⟩
theorem Z0xw:okF Tryz.prog 111 d111=true:=by kernel_rfl
def Z0dl:List J:=[oj 2 (.mv (.const (.slice none 0 0)))]
def Z0dm:List J:=[oj 5 (.bs 5 1 1 [.one (.int .u8 0)] [(0,1,(.const (.int .u8 128)))]),oj 3 (.mv 5)]
def Z0dn:List J:=[oj 6 (.mv 0),oj 7 (.bin .rem 6 (cu 128)),oj 8 (.conv .i64 7),oj 4 (.mv 8)]
def Z0do:List J:=[oj 9 (.mv 4),oj 10 (.mv 3),oj 11 (.len 10),oj 12 (.bin .add 9 11),oj 13 (.bin .add 12 (ci 16)),oj 14 (.bin .rem 13 (ci 128)),oj 15 (.bin .neq 14 (ci 0))]
def Z0dp:List J:=[oj 16 (.mv 3),oj 17 (.bs 5 1 1 [.one (.int .u8 0)] [(0,1,(.const (.int .u8 0)))]),oj 18 (.app 5 1 1 [.one (.int .u8 0)] 16 17),oj 3 (.mv 18)]
def Z06u:IC:=(.ops Z0dp)
def Z0a0:IC:=(.seq (.seq (.ops Z0do) (.cond 15 .skip (.exit 0))) (.block 1 Z06u))
def Z06t:IC:=(.loop Z0a0)
def Z0dq:List J:=[oj 19 (.mv 3),oj 20 (.mv 0),oj 21 (.bin .quo 20 (cu 2305843009213693952)),oj 22 (.call 111 [21]),oj 23 (.app 5 1 1 [.one (.int .u8 0)] 19 22),oj 3 (.mv 23)]
def Z0dr:List J:=[oj 24 (.mv 3),oj 25 (.mv 0),oj 26 (.bin .mul 25 (cu 8)),oj 27 (.call 111 [26]),oj 28 (.app 5 1 1 [.one (.int .u8 0)] 24 27),oj 2 (.mv 28)]
def d109:FnD:=⟨29,[.tmp 2],(.seq (.ops Z0dl) (.seq (.ops Z0dm) (.seq (.ops Z0dn) (.seq (.block 0 Z06t) (.seq (.ops Z0dq) (.seq (.ops Z0dr) .ret))))))⟩
theorem Z0xu:okF Tryz.prog 109 d109=true:=by kernel_rfl
def Z0sd:List J:=[oj 2 (.mv (cu 0))]
def Z0se:List J:=[oj 3 (.mv (cu 0))]
def Z0sf:List J:=[oj 4 (.mv (ci 0))]
def Z0sg:List J:=[oj 5 (.mv 4),oj 6 (.bin .lss 5 (ci 8))]
def Z0si:List J:=[oj 9 (.mv 3),oj 10 (.bin .mul 9 (cu 256)),oj 11 (.mv 0),oj 12 (.mv 4),oj 13 (.ias 1 11 12),oj 14 (.ld 1 false 13),oj 15 (.conv .u64 14),oj 16 (.bin .add 10 15),oj 3 (.mv 16)]
def Z09q:IC:=(.ops Z0si)
def Z0sh:List J:=[oj 7 (.mv 4),oj 8 (.bin .add 7 (ci 1)),oj 4 (.mv 8)]
def Z0bg:IC:=(.seq (.seq (.ops Z0sg) (.cond 6 .skip (.exit 0))) (.seq (.block 1 Z09q) (.ops Z0sh)))
def Z09p:IC:=(.loop Z0bg)
def Z0sj:List J:=[oj 17 (.mv 3),oj 2 (.mv 17)]
def d209:FnD:=⟨18,[.tmp 2],(.seq (.ops Z0sd) (.seq (.ops Z0se) (.seq (.seq (.ops Z0sf) (.block 0 Z09p)) (.seq (.ops Z0sj) .ret))))⟩
theorem Z105:okF Tryz.prog 209 d209=true:=by kernel_rfl
def Z0so:List J:=[oj 4 (.mv (cu 0))]
def Z0sp:List J:=[oj 5 (.mv 0),oj 6 (.mv 1),oj 7 (.bin .shr 5 6),oj 8 (.mv 0),oj 9 (.mv 1),oj 10 (.bin .sub (cu 64) 9),oj 11 (.bin .shl 8 10),oj 12 (.bin .or 7 11),oj 4 (.mv 12)]
def d212:FnD:=⟨13,[.tmp 4],(.seq (.ops Z0so) (.seq (.ops Z0sp) .ret))⟩
theorem Z108:okF Tryz.prog 212 d212=true:=by kernel_rfl
def Z0sk:List J:=[oj 2 (.mv (cu 0))]
def Z0sl:List J:=[oj 3 (.mv 0),oj 4 (.call 212 [3,(cu 19)]),oj 5 (.mv 0),oj 6 (.call 212 [5,(cu 61)]),oj 7 (.bin .xor 4 6),oj 8 (.mv 0),oj 9 (.bin .shr 8 (cu 6)),oj 10 (.bin .xor 7 9),oj 2 (.mv 10)]
def d210:FnD:=⟨11,[.tmp 2],(.seq (.ops Z0sk) (.seq (.ops Z0sl) .ret))⟩
theorem Z106:okF Tryz.prog 210 d210=true:=by kernel_rfl
def Z0sm:List J:=[oj 2 (.mv (cu 0))]
def Z0sn:List J:=[oj 3 (.mv 0),oj 4 (.call 212 [3,(cu 1)]),oj 5 (.mv 0),oj 6 (.call 212 [5,(cu 8)]),oj 7 (.bin .xor 4 6),oj 8 (.mv 0),oj 9 (.bin .shr 8 (cu 7)),oj 10 (.bin .xor 7 9),oj 2 (.mv 10)]
def d211:FnD:=⟨11,[.tmp 2],(.seq (.ops Z0sm) (.seq (.ops Z0sn) .ret))⟩
theorem Z107:okF Tryz.prog 211 d211=true:=by kernel_rfl
def Z0o1:List J:=[oj 2 (.mv (.const (.slice none 0 0)))]
def Z0o2:List J:=[oj 3 (.mv (.const (.slice none 0 0)))]
def Z0o3:List J:=[oj 4 (.mv (ci 0))]
def Z0o4:List J:=[oj 6 (.mv 4),oj 7 (.bin .lss 6 (ci 16))]
def Z0o6:List J:=[oj 10 (.mv 3),oj 11 (.mv 0),oj 12 (.mv 4),oj 13 (.bin .mul (ci 8) 12),oj 14 (.mv 4),oj 15 (.bin .mul (ci 8) 14),oj 16 (.bin .add 15 (ci 8)),oj 17 (.sls 1 11 (some 13) (some 16) none),oj 18 (.call 209 [17]),oj 19 (.bs 78 1 1 [.one (.int .u64 0)] [(0,1,18)]),oj 20 (.app 78 1 8 [.one (.int .u64 0)] 10 19),oj 3 (.mv 20)]
def Z090:IC:=(.ops Z0o6)
def Z0o5:List J:=[oj 8 (.mv 4),oj 9 (.bin .add 8 (ci 1)),oj 4 (.mv 9)]
def Z0b3:IC:=(.seq (.seq (.ops Z0o4) (.cond 7 .skip (.exit 0))) (.seq (.block 1 Z090) (.ops Z0o5)))
def Z08z:IC:=(.loop Z0b3)
def Z0o7:List J:=[oj 5 (.mv (ci 16))]
def Z0o8:List J:=[oj 21 (.mv 5),oj 22 (.bin .lss 21 (ci 80))]
def Z0oa:Sch:=(.p [0] (oj 25 (.mv 3)) (.p [1] (oj 26 (.mv 3)) (.p [2] (oj 27 (.mv 5)) (.p [3] (oj 28 (.bin .sub 27 (ci 2))) (.p [4] (oj 29 (.ias 1 26 28)) (.p [7] (oj 32 (.mv 3)) (.p [8] (oj 33 (.mv 5)) (.p [9] (oj 34 (.bin .sub 33 (ci 7))) (.p [10] (oj 35 (.ias 1 32 34)) (.p [13] (oj 38 (.mv 3)) (.p [14] (oj 39 (.mv 5)) (.p [15] (oj 40 (.bin .sub 39 (ci 15))) (.p [16] (oj 41 (.ias 1 38 40)) (.p [20] (oj 45 (.mv 3)) (.p [21] (oj 46 (.mv 5)) (.p [22] (oj 47 (.bin .sub 46 (ci 16))) (.p [23] (oj 48 (.ias 1 45 47)) (.q [5] (oj 30 (.ld 1 false 29)) (.p [6] (oj 31 (.call 210 [30])) (.q [11] (oj 36 (.ld 1 false 35)) (.p [12] (oj 37 (.bin .add 31 36)) (.q [17] (oj 42 (.ld 1 false 41)) (.p [18] (oj 43 (.call 211 [42])) (.p [19] (oj 44 (.bin .add 37 43)) (.q [24] (oj 49 (.ld 1 false 48)) (.p [25] (oj 50 (.bin .add 44 49)) (.e 26 (oi 51 (.bs 78 1 1 [.one (.int .u64 0)] [(0,1,50)])) (.e 27 (oi 52 (.app 78 1 8 [.one (.int .u64 0)] 25 51)) (.p [28] (oj 3 (.mv 52)) .nil)))))))))))))))))))))))))))))
def Z092:IC:=(.draw Z0oa [27])
def Z0o9:List J:=[oj 23 (.mv 5),oj 24 (.bin .add 23 (ci 1)),oj 5 (.mv 24)]
def Z0b4:IC:=(.seq (.seq (.ops Z0o8) (.cond 22 .skip (.exit 2))) (.seq (.block 3 Z092) (.ops Z0o9)))
def Z091:IC:=(.loop Z0b4)
def Z04d:List J:=[oj 53 (.mv 3),oj 2 (.mv 53)]
def d177:FnD:=⟨54,[.tmp 2],(.seq (.ops Z0o1) (.seq (.ops Z0o2) (.seq (.seq (.ops Z0o3) (.block 0 Z08z)) (.seq (.seq (.ops Z0o7) (.block 2 Z091)) (.seq (.ops Z04d) .ret)))))⟩
theorem Z0zf:okF Tryz.prog 177 d177=true:=by kernel_rfl
def Z0ob:List J:=[oj 3 (.bx 144 0),oj 6 (.al 144 [.ints .u64 8 (List.replicate 8 0)])]
def Z0oc:List J:=[oj 13 (.ia 8 1 3 (ci 4)),oj 14 (.ld 1 false 13),oj 7 (.mv 14)]
def Z0od:List J:=[oj 15 (.ia 8 1 3 (ci 0)),oj 16 (.ld 1 false 15),oj 8 (.mv 16)]
def Z0oe:List J:=[oj 17 (.mv 7),oj 18 (.ia 8 1 3 (ci 5)),oj 19 (.ld 1 false 18),oj 20 (.bin .and 17 19),oj 21 (.mv 7),oj 22 (.un .xor 21),oj 23 (.ia 8 1 3 (ci 6)),oj 24 (.ld 1 false 23),oj 25 (.bin .and 22 24),oj 26 (.bin .xor 20 25),oj 9 (.mv 26)]
def Z0of:List J:=[oj 27 (.mv 8),oj 28 (.ia 8 1 3 (ci 1)),oj 29 (.ld 1 false 28),oj 30 (.bin .and 27 29),oj 31 (.mv 8),oj 32 (.ia 8 1 3 (ci 2)),oj 33 (.ld 1 false 32),oj 34 (.bin .and 31 33),oj 35 (.bin .xor 30 34),oj 36 (.ia 8 1 3 (ci 1)),oj 37 (.ld 1 false 36),oj 38 (.ia 8 1 3 (ci 2)),oj 39 (.ld 1 false 38),oj 40 (.bin .and 37 39),oj 41 (.bin .xor 35 40),oj 10 (.mv 41)]
def Z0og:Sch:=(.p [0] (oj 42 (.ia 8 1 3 (ci 7))) (.p [2] (oj 44 (.mv 7)) (.p [3] (oj 45 (.call 212 [44,(cu 14)])) (.p [4] (oj 46 (.mv 7)) (.p [5] (oj 47 (.call 212 [46,(cu 18)])) (.p [6] (oj 48 (.bin .xor 45 47)) (.p [7] (oj 49 (.mv 7)) (.p [8] (oj 50 (.call 212 [49,(cu 41)])) (.p [9] (oj 51 (.bin .xor 48 50)) (.p [11] (oj 53 (.mv 9)) (.p [13] (oj 55 (.mv 1)) (.p [15] (oj 57 (.mv 2)) (.q [1] (oj 43 (.ld 1 false 42)) (.p [10] (oj 52 (.bin .add 43 51)) (.p [12] (oj 54 (.bin .add 52 53)) (.p [14] (oj 56 (.bin .add 54 55)) (.p [16] (oj 58 (.bin .add 56 57)) (.p [17] (oj 11 (.mv 58)) .nil))))))))))))))))))
def Z0oh:List J:=[oj 59 (.mv 8),oj 60 (.call 212 [59,(cu 28)]),oj 61 (.mv 8),oj 62 (.call 212 [61,(cu 34)]),oj 63 (.bin .xor 60 62),oj 64 (.mv 8),oj 65 (.call 212 [64,(cu 39)]),oj 66 (.bin .xor 63 65),oj 67 (.mv 10),oj 68 (.bin .add 66 67),oj 12 (.mv 68)]
def Z0oi:List J:=[oj 69 (.mv 11),oj 70 (.mv 12),oj 71 (.bin .add 69 70),oj 72 (.ia 8 1 3 (ci 0)),oj 73 (.ld 1 false 72),oj 74 (.ia 8 1 3 (ci 1)),oj 75 (.ld 1 false 74),oj 76 (.ia 8 1 3 (ci 2)),oj 77 (.ld 1 false 76),oj 78 (.ia 8 1 3 (ci 3)),oj 79 (.ld 1 false 78),oj 80 (.mv 11),oj 81 (.bin .add 79 80),oj 82 (.ia 8 1 3 (ci 4)),oj 83 (.ld 1 false 82),oj 84 (.ia 8 1 3 (ci 5)),oj 85 (.ld 1 false 84),oj 86 (.ia 8 1 3 (ci 6)),oj 87 (.ld 1 false 86),oj 88 (.bd [.ints .u64 8 (List.replicate 8 0)] [(0,1,71),(1,1,73),(2,1,75),(3,1,77),(4,1,81),(5,1,83),(6,1,85),(7,1,87)]),on_ (.st 8 6 88)]
def d178:FnD:=⟨89,[.cell 6 8 true],(.seq (.ops Z0ob) (.seq (.ops Z0oc) (.seq (.ops Z0od) (.seq (.ops Z0oe) (.seq (.ops Z0of) (.seq (.draw Z0og []) (.seq (.ops Z0oh) (.seq (.ops Z0oi) .ret))))))))⟩
theorem Z0zg:okF Tryz.prog 178 d178=true:=by kernel_rfl
def Z0ds:List J:=[oj 2 (.bx 144 0),oj 4 (.al 144 [.ints .u64 8 (List.replicate 8 0)])]
def Z0dt:List J:=[oj 9 (.mv 1),oj 10 (.call 177 [9]),oj 5 (.mv 10)]
def Z0du:List J:=[oj 11 (.ld 8 true 2),oj 6 (.al 144 [.ints .u64 8 (List.replicate 8 0)]),on_ (.st 8 6 11)]
def Z0dv:List J:=[oj 7 (.mv (ci 0))]
def Z0dw:List J:=[oj 12 (.mv 7),oj 13 (.bin .lss 12 (ci 80))]
def Z0dy:Sch:=(.p [1] (oj 17 (.mv 7)) (.p [2] (oj 18 (.ia 80 1 (.global 3) 17)) (.p [4] (oj 20 (.mv 5)) (.p [5] (oj 21 (.mv 7)) (.p [6] (oj 22 (.ias 1 20 21)) (.q [0] (oj 16 (.ld 8 true 6)) (.q [3] (oj 19 (.ld 1 false 18)) (.q [7] (oj 23 (.ld 1 false 22)) (.p [8] (oj 24 (.call 178 [16,19,23])) (.e 9 (oe (.st 8 6 24)) .nil))))))))))
def Z06w:IC:=(.draw Z0dy [9])
def Z0dx:List J:=[oj 14 (.mv 7),oj 15 (.bin .add 14 (ci 1)),oj 7 (.mv 15)]
def Z0a1:IC:=(.seq (.seq (.ops Z0dw) (.cond 13 .skip (.exit 0))) (.seq (.block 1 Z06w) (.ops Z0dx)))
def Z06v:IC:=(.loop Z0a1)
def Z0dz:List J:=[oj 8 (.mv (ci 0))]
def Z0e0:List J:=[oj 25 (.mv 8),oj 26 (.bin .lss 25 (ci 8))]
def Z036:Sch:=(.p [0] (oj 29 (.mv 8)) (.p [1] (oj 30 (.mv 8)) (.p [2] (oj 31 (.ia 8 1 6 30)) (.p [4] (oj 33 (.mv 8)) (.p [5] (oj 34 (.ia 8 1 2 33)) (.q [3] (oj 32 (.ld 1 false 31)) (.q [6] (oj 35 (.ld 1 false 34)) (.p [7] (oj 36 (.bin .add 32 35)) (.p [8] (oj 37 (.ia 8 1 6 29)) (.e 9 (oe (.st 1 37 36)) .nil))))))))))
def Z06y:IC:=(.draw Z036 [9])
def Z0e1:List J:=[oj 27 (.mv 8),oj 28 (.bin .add 27 (ci 1)),oj 8 (.mv 28)]
def Z0a2:IC:=(.seq (.seq (.ops Z0e0) (.cond 26 .skip (.exit 2))) (.seq (.block 3 Z06y) (.ops Z0e1)))
def Z06x:IC:=(.loop Z0a2)
def Z037:List J:=[oj 38 (.ld 8 true 6),on_ (.st 8 4 38)]
def d110:FnD:=⟨39,[.cell 4 8 true],(.seq (.ops Z0ds) (.seq (.ops Z0dt) (.seq (.ops Z0du) (.seq (.seq (.ops Z0dv) (.block 0 Z06v)) (.seq (.seq (.ops Z0dz) (.block 2 Z06x)) (.seq (.ops Z037) .ret))))))⟩
theorem Z0xv:okF Tryz.prog 110 d110=true:=by kernel_rfl
def Z13u:List J:=[oj 2 (.al 94 [.ints .u8 64 (List.replicate 64 0)])]
def Z13v:List J:=[oj 3 (.mv (.const (.slice none 0 0)))]
def Z13w:List J:=[oj 10 (.mv 3),oj 11 (.mv 0),oj 12 (.app 5 1 1 [.one (.int .u8 0)] 10 11),oj 3 (.mv 12)]
def Z13x:List J:=[oj 13 (.mv 3),oj 14 (.mv 0),oj 15 (.len 14),oj 16 (.conv .u64 15),oj 17 (.call 109 [16]),oj 18 (.app 5 1 1 [.one (.int .u8 0)] 13 17),oj 3 (.mv 18)]
def Z13y:List J:=[oj 19 (.ld 8 true (.global 0)),oj 4 (.al 144 [.ints .u64 8 (List.replicate 8 0)]),on_ (.st 8 4 19)]
def Z13z:List J:=[oj 5 (.mv (ci 0))]
def Z140:List J:=[oj 20 (.mv 5),oj 21 (.mv 3),oj 22 (.len 21),oj 23 (.bin .lss 20 22)]
def Z142:Sch:=(.p [1] (oj 27 (.mv 3)) (.p [2] (oj 28 (.mv 5)) (.p [3] (oj 29 (.mv 5)) (.p [4] (oj 30 (.bin .add 29 (ci 128))) (.p [5] (oj 31 (.sls 1 27 (some 28) (some 30) none)) (.q [0] (oj 26 (.ld 8 true 4)) (.q [6] (oj 32 (.call 110 [26,31])) (.e 7 (oe (.st 8 4 32)) .nil))))))))
def Z0wb:IC:=(.draw Z142 [7])
def Z141:List J:=[oj 24 (.mv 5),oj 25 (.bin .add 24 (ci 128)),oj 5 (.mv 25)]
def Z0x7:IC:=(.seq (.seq (.ops Z140) (.cond 23 .skip (.exit 0))) (.seq (.block 1 Z0wb) (.ops Z141)))
def Z0wa:IC:=(.loop Z0x7)
def Z143:List J:=[oj 6 (.al 94 [.ints .u8 64 (List.replicate 64 0)])]
def Z0tg:List J:=[oj 7 (.mv (ci 0))]
def Z0th:List J:=[oj 33 (.mv 7),oj 34 (.bin .lss 33 (ci 8))]
def Z0tj:List J:=[oj 37 (.mv 7),oj 38 (.ia 8 1 4 37),oj 39 (.ld 1 false 38),oj 40 (.call 111 [39]),oj 8 (.mv 40)]
def Z0tk:List J:=[oj 9 (.mv (ci 0))]
def Z0tl:List J:=[oj 41 (.mv 9),oj 42 (.bin .lss 41 (ci 8))]
def Z0tn:List J:=[oj 45 (.mv 7),oj 46 (.bin .mul (ci 8) 45),oj 47 (.mv 9),oj 48 (.bin .add 46 47),oj 49 (.mv 8),oj 50 (.mv 9),oj 51 (.ias 1 49 50),oj 52 (.ld 1 false 51),oj 53 (.ia 64 1 6 48),on_ (.st 1 53 52)]
def Z0wf:IC:=(.ops Z0tn)
def Z0tm:List J:=[oj 43 (.mv 9),oj 44 (.bin .add 43 (ci 1)),oj 9 (.mv 44)]
def Z0x9:IC:=(.seq (.seq (.ops Z0tl) (.cond 42 .skip (.exit 4))) (.seq (.block 5 Z0wf) (.ops Z0tm)))
def Z0we:IC:=(.loop Z0x9)
def Z0wd:IC:=(.seq (.ops Z0tj) (.seq (.ops Z0tk) (.block 4 Z0we)))
def Z0ti:List J:=[oj 35 (.mv 7),oj 36 (.bin .add 35 (ci 1)),oj 7 (.mv 36)]
def Z0x8:IC:=(.seq (.seq (.ops Z0th) (.cond 34 .skip (.exit 2))) (.seq (.block 3 Z0wd) (.ops Z0ti)))
def Z0wc:IC:=(.loop Z0x8)
def Z0to:List J:=[oj 54 (.ld 64 true 6),on_ (.st 64 2 54)]
def d58:FnD:=⟨55,[.cell 2 64 true],(.seq (.ops Z13u) (.seq (.ops Z13v) (.seq (.ops Z13w) (.seq (.ops Z13x) (.seq (.ops Z13y) (.seq (.seq (.ops Z13z) (.block 0 Z0wa)) (.seq (.ops Z143) (.seq (.seq (.ops Z0tg) (.block 2 Z0wc)) (.seq (.ops Z0to) .ret)))))))))⟩
theorem ok58:okF Tryz.prog 58 d58=true:=by kernel_rfl
def Z0dc:List J:=[oj 1 (.bx 22 0),oj 2 (.al 74 [.ints .u8 32 (List.replicate 32 0)])]
def Z0dd:List J:=[oj 3 (.al 74 [.ints .u8 32 (List.replicate 32 0)])]
def Z0de:List J:=[oj 4 (.mv (ci 0))]
def Z0df:List J:=[oj 5 (.mv 4),oj 6 (.bin .lss 5 (ci 32))]
def Z0dh:List J:=[oj 9 (.mv 4),oj 10 (.mv 4),oj 11 (.ia 32 1 1 10),oj 12 (.ld 1 false 11),oj 13 (.ia 32 1 3 9),on_ (.st 1 13 12)]
def Z06s:IC:=(.ops Z0dh)
def Z0dg:List J:=[oj 7 (.mv 4),oj 8 (.bin .add 7 (ci 1)),oj 4 (.mv 8)]
def Z09z:IC:=(.seq (.seq (.ops Z0df) (.cond 6 .skip (.exit 0))) (.seq (.block 1 Z06s) (.ops Z0dg)))
def Z06r:IC:=(.loop Z09z)
def Z0di:List J:=[oj 14 (.ia 32 1 3 (ci 0)),oj 15 (.ld 1 false 14),oj 16 (.ia 32 1 3 (ci 0)),oj 17 (.ld 1 false 16),oj 18 (.bin .rem 17 (.const (.int .u8 8))),oj 19 (.bin .sub 15 18),oj 20 (.ia 32 1 3 (ci 0)),on_ (.st 1 20 19)]
def Z0dj:List J:=[oj 21 (.ia 32 1 3 (ci 31)),oj 22 (.ld 1 false 21),oj 23 (.bin .rem 22 (.const (.int .u8 64))),oj 24 (.bin .add 23 (.const (.int .u8 64))),oj 25 (.ia 32 1 3 (ci 31)),on_ (.st 1 25 24)]
def Z0dk:List J:=[oj 26 (.ld 32 true 3),on_ (.st 32 2 26)]
def d108:FnD:=⟨27,[.cell 2 32 true],(.seq (.ops Z0dc) (.seq (.ops Z0dd) (.seq (.seq (.ops Z0de) (.block 0 Z06r)) (.seq (.ops Z0di) (.seq (.ops Z0dj) (.seq (.ops Z0dk) .ret))))))⟩
theorem Z0xt:okF Tryz.prog 108 d108=true:=by kernel_rfl
def Z13i:List J:=[oj 1 (.bx 23 0),oj 2 (.al 74 [.ints .u8 32 (List.replicate 32 0)])]
def Z13j:List J:=[oj 4 (.sla 32 1 1 none none none),oj 5 (.call 58 [4]),oj 3 (.al 94 [.ints .u8 64 (List.replicate 64 0)]),on_ (.st 64 3 5)]
def Z13k:List J:=[oj 6 (.ld 64 true 3),oj 7 (.call 57 [6,(.const (.bool false))]),oj 8 (.call 108 [7]),on_ (.st 32 2 8)]
def d56:FnD:=⟨9,[.cell 2 32 true],(.seq (.ops Z13i) (.seq (.ops Z13j) (.seq (.ops Z13k) .ret)))⟩
theorem ok56:okF Tryz.prog 56 d56=true:=by kernel_rfl
def Z110:List J:=[oj 1 (.bx 23 0),oj 2 (.al 29 [.ints .u8 32 (List.replicate 32 0)])]
def Z111:List J:=[oj 3 (.ld 32 true 1),oj 4 (.call 56 [3]),oj 5 (.call 55 [4]),oj 6 (.call 54 [5]),on_ (.st 32 2 6)]
def d13:FnD:=⟨7,[.cell 2 32 true],(.seq (.ops Z110) (.seq (.ops Z111) .ret))⟩
theorem ok13:okF Tryz.prog 13 d13=true:=by kernel_rfl
def Z0oj:List J:=[oj 4 (.mv (ci 0))]
def Z0ok:List J:=[oj 5 (.mv 1),oj 6 (.mv 0),oj 7 (.len 6),oj 8 (.bin .lss 5 7)]
def Z0ol:List J:=[oj 9 (.mv 0),oj 10 (.mv 1),oj 11 (.ias 1 9 10),oj 12 (.ld 1 false 11),oj 4 (.mv 12)]
def Z0om:List J:=[oj 4 (.mv (ci 0))]
def d179:FnD:=⟨13,[.tmp 4],(.seq (.ops Z0oj) (.seq (.seq (.ops Z0ok) (.cond 8 (.seq (.ops Z0ol) .ret) .skip)) (.seq (.ops Z0om) .ret)))⟩
theorem Z0zh:okF Tryz.prog 179 d179=true:=by kernel_rfl
def Z0ea:List J:=[oj 2 (.al 74 [.ints .u8 32 (List.replicate 32 0)])]
def Z0eb:List J:=[oj 3 (.al 74 [.ints .u8 32 (List.replicate 32 0)])]
def Z0ec:List J:=[oj 4 (.mv (ci 0))]
def Z0ed:List J:=[oj 5 (.mv 4),oj 6 (.bin .lss 5 (ci 32))]
def Z0ef:List J:=[oj 9 (.mv 4),oj 10 (.mv 0),oj 11 (.mv 4),oj 12 (.call 179 [10,11]),oj 13 (.conv .u8 12),oj 14 (.ia 32 1 3 9),on_ (.st 1 14 13)]
def Z072:IC:=(.ops Z0ef)
def Z0ee:List J:=[oj 7 (.mv 4),oj 8 (.bin .add 7 (ci 1)),oj 4 (.mv 8)]
def Z0a4:IC:=(.seq (.seq (.ops Z0ed) (.cond 6 .skip (.exit 0))) (.seq (.block 1 Z072) (.ops Z0ee)))
def Z071:IC:=(.loop Z0a4)
def Z0eg:List J:=[oj 15 (.ld 32 true 3),on_ (.st 32 2 15)]
def d112:FnD:=⟨16,[.cell 2 32 true],(.seq (.ops Z0ea) (.seq (.ops Z0eb) (.seq (.seq (.ops Z0ec) (.block 0 Z071)) (.seq (.ops Z0eg) .ret))))⟩
theorem Z0xx:okF Tryz.prog 112 d112=true:=by kernel_rfl
def Z0p4:List J:=[oj 4 (.mv (ci 0))]
def Z0p5:List J:=[oj 5 (.mv 0),oj 6 (.len 5),oj 7 (.mv 1),oj 8 (.len 7),oj 9 (.bin .lss 6 8)]
def Z0p6:List J:=[oj 10 (.mv 1),oj 11 (.len 10),oj 4 (.mv 11)]
def Z0p7:List J:=[oj 12 (.mv 0),oj 13 (.len 12),oj 4 (.mv 13)]
def d182:FnD:=⟨14,[.tmp 4],(.seq (.ops Z0p4) (.seq (.seq (.ops Z0p5) (.cond 9 (.seq (.ops Z0p6) .ret) .skip)) (.seq (.ops Z0p7) .ret)))⟩
theorem Z0zk:okF Tryz.prog 182 d182=true:=by kernel_rfl
def Z0if:List J:=[oj 4 (.mv (.const (.bool false)))]
def Z0ig:List J:=[oj 6 (.mv 0),oj 7 (.mv 1),oj 8 (.call 182 [6,7]),oj 9 (.bin .sub 8 (ci 1)),oj 5 (.mv 9)]
def Z0ih:List J:=[oj 10 (.mv 5),oj 11 (.bin .geq 10 (ci 0))]
def Z0ij:List J:=[oj 14 (.mv 0),oj 15 (.mv 5),oj 16 (.call 179 [14,15]),oj 17 (.mv 1),oj 18 (.mv 5),oj 19 (.call 179 [17,18]),oj 20 (.bin .neq 16 19)]
def Z0ik:List J:=[oj 21 (.mv 0),oj 22 (.mv 5),oj 23 (.call 179 [21,22]),oj 24 (.mv 1),oj 25 (.mv 5),oj 26 (.call 179 [24,25]),oj 27 (.bin .lss 23 26),oj 4 (.mv 27)]
def Z07w:IC:=(.seq (.ops Z0ij) (.cond 20 (.seq (.ops Z0ik) .ret) .skip))
def Z0ii:List J:=[oj 12 (.mv 5),oj 13 (.bin .sub 12 (ci 1)),oj 5 (.mv 13)]
def Z0aj:IC:=(.seq (.seq (.ops Z0ih) (.cond 11 .skip (.exit 0))) (.seq (.block 1 Z07w) (.ops Z0ii)))
def Z07v:IC:=(.loop Z0aj)
def Z0il:List J:=[oj 4 (.mv (.const (.bool false)))]
def d144:FnD:=⟨28,[.tmp 4],(.seq (.ops Z0if) (.seq (.seq (.ops Z0ig) (.block 0 Z07v)) (.seq (.ops Z0il) .ret)))⟩
theorem Z0yl:okF Tryz.prog 144 d144=true:=by kernel_rfl
def Z0im:List J:=[oj 0 (.mv (.const (.slice none 0 0)))]
def Z0in:List J:=[oj 1 (.bs 3 32 1 [.one (.int .i64 0),.one (.int .i64 0),.one (.int .i64 0),.one (.int .i64 0),.one (.int .i64 0),.one (.int .i64 0),.one (.int .i64 0),.one (.int .i64 0),.one (.int .i64 0),.one (.int .i64 0),.one (.int .i64 0),.one (.int .i64 0),.one (.int .i64 0),.one (.int .i64 0),.one (.int .i64 0),.one (.int .i64 0),.one (.int .i64 0),.one (.int .i64 0),.one (.int .i64 0),.one (.int .i64 0),.one (.int .i64 0),.one (.int .i64 0),.one (.int .i64 0),.one (.int .i64 0),.one (.int .i64 0),.one (.int .i64 0),.one (.int .i64 0),.one (.int .i64 0),.one (.int .i64 0),.one (.int .i64 0),.one (.int .i64 0),.one (.int .i64 0)] [(0,1,(ci 237)),(1,1,(ci 211)),(2,1,(ci 245)),(3,1,(ci 92)),(4,1,(ci 26)),(5,1,(ci 99)),(6,1,(ci 18)),(7,1,(ci 88)),(8,1,(ci 214)),(9,1,(ci 156)),(10,1,(ci 247)),(11,1,(ci 162)),(12,1,(ci 222)),(13,1,(ci 249)),(14,1,(ci 222)),(15,1,(ci 20)),(16,1,(ci 0)),(17,1,(ci 0)),(18,1,(ci 0)),(19,1,(ci 0)),(20,1,(ci 0)),(21,1,(ci 0)),(22,1,(ci 0)),(23,1,(ci 0)),(24,1,(ci 0)),(25,1,(ci 0)),(26,1,(ci 0)),(27,1,(ci 0)),(28,1,(ci 0)),(29,1,(ci 0)),(30,1,(ci 0)),(31,1,(ci 16))]),oj 0 (.mv 1)]
def d145:FnD:=⟨2,[.tmp 0],(.seq (.ops Z0im) (.seq (.ops Z0in) .ret))⟩
theorem Z0ym:okF Tryz.prog 145 d145=true:=by kernel_rfl
def Z0on:List J:=[oj 4 (.mv (ci 0))]
def Z0oo:List J:=[oj 7 (.mv 0),oj 8 (.mv 1),oj 9 (.bin .quo 8 (ci 8)),oj 10 (.call 179 [7,9]),oj 5 (.mv 10)]
def Z0op:List J:=[oj 6 (.mv (ci 0))]
def Z0oq:List J:=[oj 11 (.mv 6),oj 12 (.mv 1),oj 13 (.bin .rem 12 (ci 8)),oj 14 (.bin .lss 11 13)]
def Z0os:List J:=[oj 17 (.mv 5),oj 18 (.bin .quo 17 (ci 2)),oj 5 (.mv 18)]
def Z094:IC:=(.ops Z0os)
def Z0or:List J:=[oj 15 (.mv 6),oj 16 (.bin .add 15 (ci 1)),oj 6 (.mv 16)]
def Z0b5:IC:=(.seq (.seq (.ops Z0oq) (.cond 14 .skip (.exit 0))) (.seq (.block 1 Z094) (.ops Z0or)))
def Z093:IC:=(.loop Z0b5)
def Z0ot:List J:=[oj 19 (.mv 5),oj 20 (.bin .rem 19 (ci 2)),oj 4 (.mv 20)]
def d180:FnD:=⟨21,[.tmp 4],(.seq (.ops Z0on) (.seq (.ops Z0oo) (.seq (.seq (.ops Z0op) (.block 0 Z093)) (.seq (.ops Z0ot) .ret))))⟩
theorem Z0zi:okF Tryz.prog 180 d180=true:=by kernel_rfl
def Z0ou:List J:=[oj 4 (.mv (.const (.slice none 0 0)))]
def Z0ov:List J:=[oj 5 (.mv (.const (.slice none 0 0)))]
def Z0ow:List J:=[oj 6 (.mv (ci 0))]
def Z0ox:List J:=[oj 7 (.mv (ci 0))]
def Z0oy:List J:=[oj 9 (.mv 7),oj 10 (.mv 0),oj 11 (.len 10),oj 12 (.bin .lss 9 11)]
def Z0p0:Sch:=(.p [0] (oj 15 (.mv 0)) (.p [1] (oj 16 (.mv 7)) (.p [2] (oj 17 (.ias 1 15 16)) (.p [4] (oj 19 (.mv 1)) (.p [5] (oj 20 (.mv 7)) (.p [8] (oj 23 (.mv 6)) (.q [3] (oj 18 (.ld 1 false 17)) (.q [6] (oj 21 (.call 179 [19,20])) (.p [7] (oj 22 (.bin .sub 18 21)) (.p [9] (oj 24 (.bin .sub 22 23)) (.p [10] (oj 8 (.mv 24)) .nil)))))))))))
def Z0p1:List J:=[oj 6 (.mv (ci 0))]
def Z0p2:List J:=[oj 25 (.mv 8),oj 26 (.bin .lss 25 (ci 0))]
def Z0p3:List J:=[oj 27 (.mv 8),oj 28 (.bin .add 27 (ci 256)),oj 8 (.mv 28)]
def Z04e:List J:=[oj 6 (.mv (ci 1))]
def Z04f:List J:=[oj 29 (.mv 5),oj 30 (.mv 8),oj 31 (.bs 3 1 1 [.one (.int .i64 0)] [(0,1,30)]),oj 32 (.app 3 1 8 [.one (.int .i64 0)] 29 31),oj 5 (.mv 32)]
def Z096:IC:=(.seq (.draw Z0p0 []) (.seq (.ops Z0p1) (.seq (.seq (.ops Z0p2) (.cond 26 (.seq (.ops Z0p3) (.ops Z04e)) .skip)) (.ops Z04f))))
def Z0oz:List J:=[oj 13 (.mv 7),oj 14 (.bin .add 13 (ci 1)),oj 7 (.mv 14)]
def Z0b6:IC:=(.seq (.seq (.ops Z0oy) (.cond 12 .skip (.exit 0))) (.seq (.block 1 Z096) (.ops Z0oz)))
def Z095:IC:=(.loop Z0b6)
def Z04g:List J:=[oj 33 (.mv 5),oj 4 (.mv 33)]
def d181:FnD:=⟨34,[.tmp 4],(.seq (.ops Z0ou) (.seq (.ops Z0ov) (.seq (.ops Z0ow) (.seq (.seq (.ops Z0ox) (.block 0 Z095)) (.seq (.ops Z04g) .ret)))))⟩
theorem Z0zj:okF Tryz.prog 181 d181=true:=by kernel_rfl
def Z0eh:List J:=[oj 2 (.mv (.const (.slice none 0 0)))]
def Z0ei:List J:=[oj 9 (.call 145 []),oj 3 (.mv 9)]
def Z0ej:List J:=[oj 10 (.mks 3 8 [.one (.int .i64 0)] (ci 33) (ci 33)),oj 4 (.mv 10)]
def Z0ek:List J:=[oj 11 (.mv 0),oj 12 (.len 11),oj 13 (.bin .mul (ci 8) 12),oj 14 (.bin .sub 13 (ci 1)),oj 5 (.mv 14)]
def Z0el:List J:=[oj 15 (.mv 5),oj 16 (.bin .geq 15 (ci 0))]
def Z0en:List J:=[oj 19 (.mv 0),oj 20 (.mv 5),oj 21 (.call 180 [19,20]),oj 6 (.mv 21)]
def Z0eo:List J:=[oj 7 (.mv (ci 0))]
def Z0ep:List J:=[oj 22 (.mv 7),oj 23 (.bin .lss 22 (ci 33))]
def Z038:List J:=[oj 26 (.mv 4),oj 27 (.mv 7),oj 28 (.ias 1 26 27),oj 29 (.ld 1 false 28),oj 30 (.bin .mul (ci 2) 29),oj 31 (.mv 6),oj 32 (.bin .add 30 31),oj 8 (.mv 32)]
def Z039:List J:=[oj 33 (.mv 4),oj 34 (.mv 7),oj 35 (.mv 8),oj 36 (.bin .rem 35 (ci 256)),oj 37 (.ias 1 33 34),on_ (.st 1 37 36)]
def Z03a:List J:=[oj 38 (.mv 8),oj 39 (.bin .quo 38 (ci 256)),oj 6 (.mv 39)]
def Z076:IC:=(.seq (.ops Z038) (.seq (.ops Z039) (.ops Z03a)))
def Z0eq:List J:=[oj 24 (.mv 7),oj 25 (.bin .add 24 (ci 1)),oj 7 (.mv 25)]
def Z0a6:IC:=(.seq (.seq (.ops Z0ep) (.cond 23 .skip (.exit 2))) (.seq (.block 3 Z076) (.ops Z0eq)))
def Z075:IC:=(.loop Z0a6)
def Z03b:List J:=[oj 40 (.mv 4),oj 41 (.mv 3),oj 42 (.call 144 [40,41]),oj 43 (.un .not 42)]
def Z03c:List J:=[oj 44 (.mv 4),oj 45 (.mv 3),oj 46 (.call 181 [44,45]),oj 4 (.mv 46)]
def Z074:IC:=(.seq (.ops Z0en) (.seq (.seq (.ops Z0eo) (.block 2 Z075)) (.seq (.ops Z03b) (.cond 43 (.ops Z03c) .skip))))
def Z0em:List J:=[oj 17 (.mv 5),oj 18 (.bin .sub 17 (ci 1)),oj 5 (.mv 18)]
def Z0a5:IC:=(.seq (.seq (.ops Z0el) (.cond 16 .skip (.exit 0))) (.seq (.block 1 Z074) (.ops Z0em)))
def Z073:IC:=(.loop Z0a5)
def Z03d:List J:=[oj 47 (.mv 4),oj 2 (.mv 47)]
def d113:FnD:=⟨48,[.tmp 2],(.seq (.ops Z0eh) (.seq (.ops Z0ei) (.seq (.ops Z0ej) (.seq (.seq (.ops Z0ek) (.block 0 Z073)) (.seq (.ops Z03d) .ret)))))⟩
theorem Z0xy:okF Tryz.prog 113 d113=true:=by kernel_rfl
def Z0er:List J:=[oj 2 (.mv (.const (.slice none 0 0)))]
def Z0es:List J:=[oj 3 (.mv (.const (.slice none 0 0)))]
def Z0et:List J:=[oj 4 (.mv (ci 0))]
def Z0eu:List J:=[oj 5 (.mv 4),oj 6 (.mv 0),oj 7 (.len 6),oj 8 (.bin .lss 5 7)]
def Z0ew:List J:=[oj 11 (.mv 3),oj 12 (.mv 0),oj 13 (.mv 4),oj 14 (.ias 1 12 13),oj 15 (.ld 1 false 14),oj 16 (.conv .i64 15),oj 17 (.bs 3 1 1 [.one (.int .i64 0)] [(0,1,16)]),oj 18 (.app 3 1 8 [.one (.int .i64 0)] 11 17),oj 3 (.mv 18)]
def Z078:IC:=(.ops Z0ew)
def Z0ev:List J:=[oj 9 (.mv 4),oj 10 (.bin .add 9 (ci 1)),oj 4 (.mv 10)]
def Z0a7:IC:=(.seq (.seq (.ops Z0eu) (.cond 8 .skip (.exit 0))) (.seq (.block 1 Z078) (.ops Z0ev)))
def Z077:IC:=(.loop Z0a7)
def Z0ex:List J:=[oj 19 (.mv 3),oj 2 (.mv 19)]
def d114:FnD:=⟨20,[.tmp 2],(.seq (.ops Z0er) (.seq (.ops Z0es) (.seq (.seq (.ops Z0et) (.block 0 Z077)) (.seq (.ops Z0ex) .ret))))⟩
theorem Z0xz:okF Tryz.prog 114 d114=true:=by kernel_rfl
def Z144:List J:=[oj 1 (.bx 94 0),oj 2 (.al 74 [.ints .u8 32 (List.replicate 32 0)])]
def Z145:List J:=[oj 3 (.sla 64 1 1 none none none),oj 4 (.call 114 [3]),oj 5 (.call 113 [4]),oj 6 (.call 112 [5]),on_ (.st 32 2 6)]
def d59:FnD:=⟨7,[.cell 2 32 true],(.seq (.ops Z144) (.seq (.ops Z145) .ret))⟩
theorem ok59:okF Tryz.prog 59 d59=true:=by kernel_rfl
def Z146:List J:=[oj 6 (.mv (.const (.slice none 0 0)))]
def Z147:List J:=[oj 7 (.mv (.const (.slice none 0 0)))]
def Z148:List J:=[oj 8 (.mv 7),oj 9 (.mv 0),oj 10 (.app 5 1 1 [.one (.int .u8 0)] 8 9),oj 7 (.mv 10)]
def Z149:List J:=[oj 11 (.mv 7),oj 12 (.mv 1),oj 13 (.app 5 1 1 [.one (.int .u8 0)] 11 12),oj 7 (.mv 13)]
def Z14a:List J:=[oj 14 (.mv 7),oj 15 (.mv 2),oj 16 (.app 5 1 1 [.one (.int .u8 0)] 14 15),oj 7 (.mv 16)]
def Z14b:List J:=[oj 17 (.mv 7),oj 6 (.mv 17)]
def d60:FnD:=⟨18,[.tmp 6],(.seq (.ops Z146) (.seq (.ops Z147) (.seq (.ops Z148) (.seq (.ops Z149) (.seq (.ops Z14a) (.seq (.ops Z14b) .ret))))))⟩
theorem ok60:okF Tryz.prog 60 d60=true:=by kernel_rfl
def Z0ey:List J:=[oj 4 (.mv (.const (.slice none 0 0)))]
def Z0ez:List J:=[oj 5 (.mv (.const (.slice none 0 0)))]
def Z0f0:List J:=[oj 6 (.mv (ci 0))]
def Z0f1:List J:=[oj 7 (.mv (ci 0))]
def Z0f2:List J:=[oj 9 (.mv 7),oj 10 (.mv 0),oj 11 (.mv 1),oj 12 (.call 182 [10,11]),oj 13 (.bin .lss 9 12)]
def Z0f4:List J:=[oj 16 (.mv 0),oj 17 (.mv 7),oj 18 (.call 179 [16,17]),oj 19 (.mv 1),oj 20 (.mv 7),oj 21 (.call 179 [19,20]),oj 22 (.bin .add 18 21),oj 23 (.mv 6),oj 24 (.bin .add 22 23),oj 8 (.mv 24)]
def Z0f5:List J:=[oj 25 (.mv 5),oj 26 (.mv 8),oj 27 (.bin .rem 26 (ci 256)),oj 28 (.bs 3 1 1 [.one (.int .i64 0)] [(0,1,27)]),oj 29 (.app 3 1 8 [.one (.int .i64 0)] 25 28),oj 5 (.mv 29)]
def Z0f6:List J:=[oj 30 (.mv 8),oj 31 (.bin .quo 30 (ci 256)),oj 6 (.mv 31)]
def Z07a:IC:=(.seq (.ops Z0f4) (.seq (.ops Z0f5) (.ops Z0f6)))
def Z0f3:List J:=[oj 14 (.mv 7),oj 15 (.bin .add 14 (ci 1)),oj 7 (.mv 15)]
def Z0a8:IC:=(.seq (.seq (.ops Z0f2) (.cond 13 .skip (.exit 0))) (.seq (.block 1 Z07a) (.ops Z0f3)))
def Z079:IC:=(.loop Z0a8)
def Z0f7:List J:=[oj 32 (.mv 5),oj 33 (.mv 6),oj 34 (.bs 3 1 1 [.one (.int .i64 0)] [(0,1,33)]),oj 35 (.app 3 1 8 [.one (.int .i64 0)] 32 34),oj 4 (.mv 35)]
def d115:FnD:=⟨36,[.tmp 4],(.seq (.ops Z0ey) (.seq (.ops Z0ez) (.seq (.ops Z0f0) (.seq (.seq (.ops Z0f1) (.block 0 Z079)) (.seq (.ops Z0f7) .ret)))))⟩
theorem Z0y0:okF Tryz.prog 115 d115=true:=by kernel_rfl
def Z0f8:List J:=[oj 4 (.mv (.const (.slice none 0 0)))]
def Z0f9:List J:=[oj 10 (.mv 0),oj 11 (.len 10),oj 12 (.mv 1),oj 13 (.len 12),oj 14 (.bin .add 11 13),oj 15 (.mks 3 8 [.one (.int .i64 0)] 14 14),oj 5 (.mv 15)]
def Z0fa:List J:=[oj 6 (.mv (ci 0))]
def Z0fb:List J:=[oj 16 (.mv 6),oj 17 (.mv 0),oj 18 (.len 17),oj 19 (.bin .lss 16 18)]
def Z0fd:List J:=[oj 7 (.mv (ci 0))]
def Z0fe:List J:=[oj 8 (.mv (ci 0))]
def Z0ff:List J:=[oj 22 (.mv 8),oj 23 (.mv 1),oj 24 (.len 23),oj 25 (.bin .lss 22 24)]
def Z0fh:Sch:=(.p [0] (oj 28 (.mv 5)) (.p [1] (oj 29 (.mv 6)) (.p [2] (oj 30 (.mv 8)) (.p [3] (oj 31 (.bin .add 29 30)) (.p [4] (oj 32 (.ias 1 28 31)) (.p [6] (oj 34 (.mv 0)) (.p [7] (oj 35 (.mv 6)) (.p [8] (oj 36 (.ias 1 34 35)) (.p [10] (oj 38 (.mv 1)) (.p [11] (oj 39 (.mv 8)) (.p [12] (oj 40 (.ias 1 38 39)) (.p [16] (oj 44 (.mv 7)) (.q [5] (oj 33 (.ld 1 false 32)) (.q [9] (oj 37 (.ld 1 false 36)) (.q [13] (oj 41 (.ld 1 false 40)) (.p [14] (oj 42 (.bin .mul 37 41)) (.p [15] (oj 43 (.bin .add 33 42)) (.p [17] (oj 45 (.bin .add 43 44)) (.p [18] (oj 9 (.mv 45)) .nil)))))))))))))))))))
def Z03e:List J:=[oj 46 (.mv 5),oj 47 (.mv 6),oj 48 (.mv 8),oj 49 (.bin .add 47 48),oj 50 (.mv 9),oj 51 (.bin .rem 50 (ci 256)),oj 52 (.ias 1 46 49),on_ (.st 1 52 51)]
def Z03f:List J:=[oj 53 (.mv 9),oj 54 (.bin .quo 53 (ci 256)),oj 7 (.mv 54)]
def Z07e:IC:=(.seq (.draw Z0fh []) (.seq (.ops Z03e) (.ops Z03f)))
def Z0fg:List J:=[oj 26 (.mv 8),oj 27 (.bin .add 26 (ci 1)),oj 8 (.mv 27)]
def Z0aa:IC:=(.seq (.seq (.ops Z0ff) (.cond 25 .skip (.exit 2))) (.seq (.block 3 Z07e) (.ops Z0fg)))
def Z07d:IC:=(.loop Z0aa)
def Z03g:List J:=[oj 55 (.mv 5),oj 56 (.mv 6),oj 57 (.mv 1),oj 58 (.len 57),oj 59 (.bin .add 56 58),oj 60 (.mv 7),oj 61 (.ias 1 55 59),on_ (.st 1 61 60)]
def Z07c:IC:=(.seq (.ops Z0fd) (.seq (.seq (.ops Z0fe) (.block 2 Z07d)) (.ops Z03g)))
def Z0fc:List J:=[oj 20 (.mv 6),oj 21 (.bin .add 20 (ci 1)),oj 6 (.mv 21)]
def Z0a9:IC:=(.seq (.seq (.ops Z0fb) (.cond 19 .skip (.exit 0))) (.seq (.block 1 Z07c) (.ops Z0fc)))
def Z07b:IC:=(.loop Z0a9)
def Z03h:List J:=[oj 62 (.mv 5),oj 4 (.mv 62)]
def d116:FnD:=⟨63,[.tmp 4],(.seq (.ops Z0f8) (.seq (.ops Z0f9) (.seq (.seq (.ops Z0fa) (.block 0 Z07b)) (.seq (.ops Z03h) .ret))))⟩
theorem Z0y1:okF Tryz.prog 116 d116=true:=by kernel_rfl
def Z14c:List J:=[oj 3 (.bx 74 0),oj 4 (.bx 74 1),oj 5 (.bx 74 2),oj 6 (.al 74 [.ints .u8 32 (List.replicate 32 0)])]
def Z14d:Sch:=(.p [0] (oj 7 (.sla 32 1 3 none none none)) (.p [2] (oj 9 (.sla 32 1 4 none none none)) (.p [5] (oj 12 (.sla 32 1 5 none none none)) (.e 1 (oi 8 (.call 114 [7])) (.e 3 (oi 10 (.call 114 [9])) (.e 4 (oi 11 (.call 116 [8,10])) (.e 6 (oi 13 (.call 114 [12])) (.e 7 (oi 14 (.call 115 [11,13])) (.e 8 (oi 15 (.call 113 [14])) (.e 9 (oi 16 (.call 112 [15])) (.e 10 (oe (.st 32 6 16)) .nil)))))))))))
def d61:FnD:=⟨17,[.cell 6 32 true],(.seq (.ops Z14c) (.seq (.draw Z14d [10]) .ret))⟩
theorem ok61:okF Tryz.prog 61 d61=true:=by kernel_rfl
def Z112:List J:=[oj 2 (.bx 23 0),oj 4 (.al 27 [.ints .u8 64 (List.replicate 64 0)])]
def Z113:List J:=[oj 14 (.ld 32 true 2),oj 15 (.call 56 [14]),oj 5 (.al 74 [.ints .u8 32 (List.replicate 32 0)]),on_ (.st 32 5 15)]
def Z114:List J:=[oj 16 (.ld 32 true 2),oj 17 (.call 13 [16]),oj 6 (.al 29 [.ints .u8 32 (List.replicate 32 0)]),on_ (.st 32 6 17)]
def Z115:List J:=[oj 18 (.sla 32 1 2 none none none),oj 19 (.call 58 [18]),oj 20 (.call 57 [19,(.const (.bool true))]),oj 7 (.al 22 [.ints .u8 32 (List.replicate 32 0)]),on_ (.st 32 7 20)]
def Z116:List J:=[oj 21 (.sla 32 1 7 none none none),oj 22 (.mv 1),oj 23 (.call 60 [21,22,(.const (.slice none 0 0))]),oj 24 (.call 58 [23]),oj 25 (.call 59 [24]),oj 8 (.al 74 [.ints .u8 32 (List.replicate 32 0)]),on_ (.st 32 8 25)]
def Z117:List J:=[oj 26 (.ld 32 true 8),oj 27 (.call 55 [26]),oj 28 (.call 54 [27]),oj 9 (.al 29 [.ints .u8 32 (List.replicate 32 0)]),on_ (.st 32 9 28)]
def Z118:Sch:=(.p [0] (oj 29 (.sla 32 1 9 none none none)) (.p [1] (oj 30 (.sla 32 1 6 none none none)) (.p [2] (oj 31 (.mv 1)) (.two 3 (oi 32 (.call 60 [29,30,31])) (.two 4 (oi 33 (.call 58 [32])) (.p [5] (oj 34 (.call 59 [33])) (.e 6 (oi 10 (.al 74 [.ints .u8 32 (List.replicate 32 0)])) (.e 7 (oe (.st 32 10 34)) .nil)))
  6 ⟨some 10,none,.al 74 [.ints .u8 32 (List.replicate 32 0)]⟩ (.e 4 (oi 33 (.call 58 [32])) (.p [5] (oj 34 (.call 59 [33])) (.e 7 (oe (.st 32 10 34)) .nil))))
  6 ⟨some 10,none,.al 74 [.ints .u8 32 (List.replicate 32 0)]⟩ (.e 3 (oi 32 (.call 60 [29,30,31])) (.e 4 (oi 33 (.call 58 [32])) (.p [5] (oj 34 (.call 59 [33])) (.e 7 (oe (.st 32 10 34)) .nil))))))))
def Z119:List J:=[oj 35 (.ld 32 true 10),oj 36 (.ld 32 true 5),oj 37 (.ld 32 true 8),oj 38 (.call 61 [35,36,37]),oj 11 (.al 74 [.ints .u8 32 (List.replicate 32 0)]),on_ (.st 32 11 38)]
def Z11a:List J:=[oj 12 (.al 27 [.ints .u8 64 (List.replicate 64 0)])]
def Z11b:List J:=[oj 13 (.mv (ci 0))]
def Z0jc:List J:=[oj 39 (.mv 13),oj 40 (.bin .lss 39 (ci 32))]
def Z0je:List J:=[oj 43 (.mv 13),oj 44 (.mv 13),oj 45 (.ia 32 1 9 44),oj 46 (.ld 1 false 45),oj 47 (.ia 64 1 12 43),on_ (.st 1 47 46)]
def Z0jf:List J:=[oj 48 (.mv 13),oj 49 (.bin .add (ci 32) 48),oj 50 (.mv 13),oj 51 (.ia 32 1 11 50),oj 52 (.ld 1 false 51),oj 53 (.ia 64 1 12 49),on_ (.st 1 53 52)]
def Z0vx:IC:=(.seq (.ops Z0je) (.ops Z0jf))
def Z0jd:List J:=[oj 41 (.mv 13),oj 42 (.bin .add 41 (ci 1)),oj 13 (.mv 42)]
def Z0x0:IC:=(.seq (.seq (.ops Z0jc) (.cond 40 .skip (.exit 0))) (.seq (.block 1 Z0vx) (.ops Z0jd)))
def Z0vw:IC:=(.loop Z0x0)
def Z0jg:List J:=[oj 54 (.ld 64 true 12),on_ (.st 64 4 54)]
def d14:FnD:=⟨55,[.cell 4 64 true],(.seq (.ops Z112) (.seq (.ops Z113) (.seq (.ops Z114) (.seq (.ops Z115) (.seq (.ops Z116) (.seq (.ops Z117) (.seq (.draw Z118 [7]) (.seq (.ops Z119) (.seq (.ops Z11a) (.seq (.seq (.ops Z11b) (.block 0 Z0vw)) (.seq (.ops Z0jg) .ret)))))))))))⟩
theorem ok14:okF Tryz.prog 14 d14=true:=by kernel_rfl
def r3_0:List J:=[oj 2 (.bx 23 0),oj 4 (.mv (.const (.bool false)))]
def r3_1:List J:=[oj 9 (.mv 1),oj 10 (.call 10 [9]),oj 5 (.mv 10)]
def r3_2:List J:=[oj 11 (.ld 32 true 2),oj 12 (.mv 5),oj 13 (.call 11 [11,12]),oj 6 (.al 27 [.ints .u8 64 (List.replicate 64 0)]),on_ (.st 64 6 13)]
def r3_3:Sch:=(.q [0] (oj 14 (.ld 32 true 2)) (.p [1] (oj 15 (.call 12 [14])) (.q [2] (oj 16 (.ld 32 true 2)) (.p [3] (oj 17 (.call 13 [16])) (.p [4] (oj 18 (.eqa true [(.i .u8,32)] 15 17)) (.p [5] (oj 19 (.mv 18)) (.q [6,7,8,9,10,11] (.lg true 19 25 none [.op ⟨some 20,(some (19,false)),.ld 64 true 6⟩,.op ⟨some 21,(some (19,false)),.ld 32 true 2⟩,.op ⟨some 22,(some (19,false)),.mv 1⟩,.op ⟨some 23,(some (19,false)),.call 14 [21,22]⟩,.op ⟨some 24,(some (19,false)),.eqa true [(.i .u8,64)] 20 23⟩] 24) (.p [12] (oj 26 (.mv 25)) (.q [13,14,15,16,17] (.lg true 26 31 none [.op ⟨some 27,(some (26,false)),.mv 5⟩,.op ⟨some 28,(some (26,false)),.mv 1⟩,.op ⟨some 29,(some (26,false)),.call 15 [27,28]⟩,.op ⟨some 30,(some (26,false)),.un .not 29⟩] 30) .nil)))))))))
def r3_4:List J:=[oj 4 (.mv (.const (.bool false)))]
def r3_5:List J:=[oj 32 (.mv 5),oj 33 (.call 16 [32]),oj 7 (.mv 33)]
def r3_6:List J:=[oj 34 (.ld 32 true 2),oj 35 (.mv 5),oj 36 (.call 11 [34,35]),oj 8 (.al 27 [.ints .u8 64 (List.replicate 64 0)]),on_ (.st 64 8 36)]
def r3_7:Sch:=(.p [2] (oj 39 (.mv 7)) (.q [0] (oj 37 (.ld 64 true 8)) (.q [1] (oj 38 (.ld 32 true 2)) (.q [3] (oj 40 (.call 14 [38,39])) (.p [4] (oj 41 (.eqa false [(.i .u8,64)] 37 40)) (.p [5] (oj 42 (.mv 41)) (.q [6,7,8,9] (.lg false 42 46 none [.op ⟨some 43,(some (42,true)),.mv 5⟩,.op ⟨some 44,(some (42,true)),.mv 7⟩,.op ⟨some 45,(some (42,true)),.call 15 [43,44]⟩] 45) (.p [10] (oj 4 (.mv 46)) .nil))))))))
def d3:FnD:=⟨47,[.tmp 4],(.seq (.ops r3_0) (.seq (.ops r3_1) (.seq (.ops r3_2) (.seq (.seq (.draw r3_3 []) (.cond 31 (.seq (.ops r3_4) .ret) .skip)) (.seq (.ops r3_5) (.seq (.ops r3_6) (.seq (.draw r3_7 []) .ret)))))))⟩
def r5_0:List J:=[oj 3 (.bx 29 0),oj 5 (.bx 27 2),oj 6 (.mv (.const (.bool false)))]
def r5_1:List J:=[oj 9 (.mv 1),oj 10 (.call 10 [9]),oj 7 (.mv 10)]
def r5_2:Sch:=(.p [1] (oj 12 (.mv 7)) (.p [5] (oj 16 (.mv 1)) (.q [0] (oj 11 (.ld 32 true 3)) (.q [2] (oj 13 (.ld 64 true 5)) (.q [3] (oj 14 (.call 25 [11,12,13])) (.q [4] (oj 15 (.ld 32 true 3)) (.q [6] (oj 17 (.ld 64 true 5)) (.q [7] (oj 18 (.call 26 [15,16,17])) (.p [8] (oj 19 (.beq true 14 18)) (.p [9] (oj 20 (.mv 19)) (.q [10,11,12,13,14] (.lg true 20 25 none [.op ⟨some 21,(some (20,false)),.mv 7⟩,.op ⟨some 22,(some (20,false)),.mv 1⟩,.op ⟨some 23,(some (20,false)),.call 15 [21,22]⟩,.op ⟨some 24,(some (20,false)),.un .not 23⟩] 24) .nil)))))))))))
def r5_3:List J:=[oj 6 (.mv (.const (.bool false)))]
def r5_4:List J:=[oj 26 (.mv 7),oj 27 (.call 16 [26]),oj 8 (.mv 27)]
def r5_5:Sch:=(.p [1] (oj 29 (.mv 7)) (.p [5] (oj 33 (.mv 8)) (.q [0] (oj 28 (.ld 32 true 3)) (.q [2] (oj 30 (.ld 64 true 5)) (.q [3] (oj 31 (.call 25 [28,29,30])) (.q [4] (oj 32 (.ld 32 true 3)) (.q [6] (oj 34 (.ld 64 true 5)) (.q [7] (oj 35 (.call 26 [32,33,34])) (.p [8] (oj 36 (.beq false 31 35)) (.p [9] (oj 37 (.mv 36)) (.q [10,11,12,13] (.lg false 37 41 none [.op ⟨some 38,(some (37,true)),.mv 7⟩,.op ⟨some 39,(some (37,true)),.mv 8⟩,.op ⟨some 40,(some (37,true)),.call 15 [38,39]⟩] 40) (.p [14] (oj 6 (.mv 41)) .nil))))))))))))
def d5:FnD:=⟨42,[.tmp 6],(.seq (.ops r5_0) (.seq (.ops r5_1) (.seq (.seq (.draw r5_2 []) (.cond 25 (.seq (.ops r5_3) .ret) .skip)) (.seq (.ops r5_4) (.seq (.draw r5_5 []) .ret)))))⟩
def Z14o:List J:=[oj 0 (.mv (.const (.pointer none)))]
def Z14p:List J:=[oj 1 (.bd [.one (.slice none 0 0),.one (.int .i64 0)] []),oj 2 (.bx 178 1),oj 0 (.mv 2)]
def d74:FnD:=⟨3,[.tmp 0],(.seq (.ops Z14o) (.seq (.ops Z14p) .ret))⟩
theorem ok74:okF Tryz.prog 74 d74=true:=by kernel_rfl
def Z0iy:List J:=[oj 4 (.mv 0),oj 5 (.nilc 4),oj 6 (.fa 1 5),oj 7 (.ld 1 false 6),oj 8 (.bin .eql 7 (ci 0))]
def Z0iz:List J:=[oj 9 (.mv 0),oj 10 (.mv 0),oj 11 (.nilc 10),oj 12 (.fa 0 11),oj 13 (.ld 1 false 12),oj 14 (.mv 1),oj 15 (.app 5 1 1 [.one (.int .u8 0)] 13 14),oj 16 (.nilc 9),oj 17 (.fa 0 16),on_ (.st 1 17 15)]
def d147:FnD:=⟨18,[],(.seq (.ops Z0iy) (.cond 8 (.ops Z0iz) .skip))⟩
theorem Z0yo:okF Tryz.prog 147 d147=true:=by kernel_rfl
def Z14q:List J:=[oj 4 (.mv 0),oj 5 (.mv 1),oj 6 (.call 147 [4,5])]
def d75:FnD:=⟨7,[],(.ops Z14q)⟩
theorem ok75:okF Tryz.prog 75 d75=true:=by kernel_rfl
def Z14r:List J:=[oj 2 (.mv (.const (.slice none 0 0)))]
def Z14s:List J:=[oj 3 (.mv 0),oj 4 (.bin .lss 3 (ci 1)),oj 5 (.mv 4),.lg true 5 8 none [.op ⟨some 6,(some (5,false)),.mv 0⟩,.op ⟨some 7,(some (5,false)),.bin .gtr 6 (ci 255)⟩] 7]
def Z14t:List J:=[oj 2 (.mv (.const (.slice none 0 0)))]
def Z14u:List J:=[oj 9 (.mv 0),oj 10 (.conv .u8 9),oj 11 (.bs 5 4 1 [.one (.int .u8 0),.one (.int .u8 0),.one (.int .u8 0),.one (.int .u8 0)] [(0,1,(.const (.int .u8 70))),(1,1,(.const (.int .u8 66))),(2,1,(.const (.int .u8 1))),(3,1,10)]),oj 2 (.mv 11)]
def d76:FnD:=⟨12,[.tmp 2],(.seq (.ops Z14r) (.seq (.seq (.ops Z14s) (.cond 8 (.seq (.ops Z14t) .ret) .skip)) (.seq (.ops Z14u) .ret)))⟩
theorem ok76:okF Tryz.prog 76 d76=true:=by kernel_rfl
def Z0qg:List J:=[oj 0 (.mv (ci 0))]
def Z0qh:List J:=[oj 1 (.mv (ci 0))]
def Z0qi:List J:=[oj 3 (.conv .u32 (ci 0)),oj 4 (.un .xor 3),oj 2 (.mv 4)]
def Z0qj:List J:=[oj 5 (.mv 2),oj 6 (.bin .neq 5 (.const (.int .u32 0)))]
def Z0ql:List J:=[oj 9 (.mv 1),oj 10 (.bin .add 9 (ci 1)),oj 1 (.mv 10)]
def Z09e:IC:=(.ops Z0ql)
def Z0qk:List J:=[oj 7 (.mv 2),oj 8 (.bin .shr 7 (cu 1)),oj 2 (.mv 8)]
def Z0ba:IC:=(.seq (.seq (.ops Z0qj) (.cond 6 .skip (.exit 0))) (.seq (.block 1 Z09e) (.ops Z0qk)))
def Z09d:IC:=(.loop Z0ba)
def Z0qm:List J:=[oj 11 (.mv 1),oj 0 (.mv 11)]
def d199:FnD:=⟨12,[.tmp 0],(.seq (.ops Z0qg) (.seq (.ops Z0qh) (.seq (.seq (.ops Z0qi) (.block 0 Z09d)) (.seq (.ops Z0qm) .ret))))⟩
theorem Z0zv:okF Tryz.prog 199 d199=true:=by kernel_rfl
def Z0j0:List J:=[oj 2 (.mv (.const (.slice none 0 0)))]
def Z0j1:List J:=[oj 5 (.call 199 []),oj 6 (.bin .quo 5 (ci 8)),oj 7 (.mks 5 1 [.one (.int .u8 0)] 6 6),oj 3 (.mv 7)]
def Z0j2:List J:=[oj 8 (.mv 3),oj 9 (.len 8),oj 10 (.bin .sub 9 (ci 1)),oj 4 (.mv 10)]
def Z0j3:List J:=[oj 11 (.mv 4),oj 12 (.bin .geq 11 (ci 0))]
def Z0j5:List J:=[oj 15 (.mv 3),oj 16 (.mv 4),oj 17 (.mv 0),oj 18 (.conv .u8 17),oj 19 (.ias 1 15 16),on_ (.st 1 19 18)]
def Z0j6:List J:=[oj 20 (.mv 0),oj 21 (.bin .shr 20 (cu 8)),oj 0 (.mv 21)]
def Z07y:IC:=(.seq (.ops Z0j5) (.ops Z0j6))
def Z0j4:List J:=[oj 13 (.mv 4),oj 14 (.bin .sub 13 (ci 1)),oj 4 (.mv 14)]
def Z0ak:IC:=(.seq (.seq (.ops Z0j3) (.cond 12 .skip (.exit 0))) (.seq (.block 1 Z07y) (.ops Z0j4)))
def Z07x:IC:=(.loop Z0ak)
def Z0j7:List J:=[oj 22 (.mv 3),oj 2 (.mv 22)]
def d148:FnD:=⟨23,[.tmp 2],(.seq (.ops Z0j0) (.seq (.ops Z0j1) (.seq (.seq (.ops Z0j2) (.block 0 Z07x)) (.seq (.ops Z0j7) .ret))))⟩
theorem Z0yp:okF Tryz.prog 148 d148=true:=by kernel_rfl
def Z14v:List J:=[oj 4 (.mv 0),oj 5 (.mv 1),oj 6 (.call 148 [5]),oj 7 (.call 147 [4,6])]
def d77:FnD:=⟨8,[],(.ops Z14v)⟩
theorem ok77:okF Tryz.prog 77 d77=true:=by kernel_rfl
def Z14w:List J:=[oj 2 (.mv (.const (.slice none 0 0))),oj 3 (.mv (ci 0))]
def Z14x:List J:=[oj 4 (.mv 0),oj 5 (.nilc 4),oj 6 (.fa 1 5),oj 7 (.ld 1 false 6),oj 8 (.bin .neq 7 (ci 0))]
def Z14y:Sch:=(.p [0] (oj 9 (.mv 0)) (.p [1] (oj 10 (.nilc 9)) (.p [2] (oj 11 (.fa 1 10)) (.p [4] (oj 2 (.mv (.const (.slice none 0 0)))) (.q [3] (oj 12 (.ld 1 false 11)) (.p [5] (oj 3 (.mv 12)) .nil))))))
def Z14z:List J:=[oj 13 (.bs 5 0 1 [] []),oj 14 (.mv 0),oj 15 (.nilc 14),oj 16 (.fa 0 15),oj 17 (.ld 1 false 16),oj 18 (.app 5 1 1 [.one (.int .u8 0)] 13 17),oj 2 (.mv 18),oj 3 (.mv (ci 0))]
def d78:FnD:=⟨19,[.tmp 2,.tmp 3],(.seq (.ops Z14w) (.seq (.seq (.ops Z14x) (.cond 8 (.seq (.draw Z14y []) .ret) .skip)) (.seq (.ops Z14z) .ret)))⟩
theorem ok78:okF Tryz.prog 78 d78=true:=by kernel_rfl
def Z11p:List J:=[oj 1 (.bx 51 0),oj 2 (.mv (.const (.slice none 0 0)))]
def Z11q:List J:=[oj 6 (.fa 0 1),oj 7 (.ld 1 false 6),oj 8 (.bin .lss 7 (ci 1)),oj 9 (.mv 8),.lg true 9 13 none [.op ⟨some 10,(some (9,false)),.fa 0 1⟩,.op ⟨some 11,(some (9,false)),.ld 1 false 10⟩,.op ⟨some 12,(some (9,false)),.bin .gtr 11 (ci 64)⟩] 12]
def Z11r:List J:=[oj 2 (.mv (.const (.slice none 0 0)))]
def Z11s:List J:=[oj 14 (.call 74 []),oj 3 (.mv 14)]
def Z11t:List J:=[oj 15 (.mv 3),oj 16 (.call 76 [(ci 11)]),oj 17 (.call 75 [15,16])]
def Z11u:List J:=[oj 18 (.mv 3),oj 19 (.fa 0 1),oj 20 (.ld 1 false 19),oj 21 (.conv .u32 20),oj 22 (.call 77 [18,21])]
def Z11v:List J:=[oj 23 (.mv 3),oj 24 (.fa 1 1),oj 25 (.sla 32 1 24 none none none),oj 26 (.call 75 [23,25])]
def Z11w:List J:=[oj 28 (.mv 3),oj 29 (.call 78 [28]),oj 27 (.mv 29),oj 30 (.ext 27 0),oj 31 (.ext 27 1),oj 4 (.mv 30),oj 5 (.mv 31)]
def Z11x:List J:=[oj 32 (.mv 4),oj 2 (.mv 32)]
def d29:FnD:=⟨33,[.tmp 2],(.seq (.ops Z11p) (.seq (.seq (.ops Z11q) (.cond 13 (.seq (.ops Z11r) .ret) .skip)) (.seq (.ops Z11s) (.seq (.ops Z11t) (.seq (.ops Z11u) (.seq (.ops Z11v) (.seq (.ops Z11w) (.seq (.ops Z11x) .ret))))))))⟩
theorem ok29:okF Tryz.prog 29 d29=true:=by kernel_rfl
def Z11c:List J:=[oj 3 (.bx 23 0),oj 5 (.bx 29 2),oj 6 (.al 51 [.one (.int .i64 0),.ints .u8 32 (List.replicate 32 0),.ints .u8 64 (List.replicate 64 0)]),oj 7 (.mv (.const (.bool false)))]
def Z11d:List J:=[oj 10 (.mv 1),oj 11 (.ld 32 true 5),oj 12 (.bd [.one (.int .i64 0),.ints .u8 32 (List.replicate 32 0),.ints .u8 64 (List.replicate 64 0)] [(0,1,10),(1,32,11)]),oj 8 (.al 51 [.one (.int .i64 0),.ints .u8 32 (List.replicate 32 0),.ints .u8 64 (List.replicate 64 0)]),on_ (.st 97 8 12)]
def Z11e:List J:=[oj 13 (.ld 97 true 8),oj 14 (.call 29 [13]),oj 9 (.mv 14)]
def Z11f:List J:=[oj 15 (.mv 9),oj 16 (.isn false 15)]
def Z11g:List J:=[oj 17 (.bd [.one (.int .i64 0),.ints .u8 32 (List.replicate 32 0),.ints .u8 64 (List.replicate 64 0)] []),on_ (.st 97 6 17),oj 7 (.mv (.const (.bool false)))]
def Z11h:List J:=[oj 18 (.ld 32 true 3),oj 19 (.mv 9),oj 20 (.call 11 [18,19]),oj 21 (.fa 33 8),on_ (.st 64 21 20)]
def Z11i:List J:=[oj 22 (.ld 97 true 8),on_ (.st 97 6 22),oj 7 (.mv (.const (.bool true)))]
def d27:FnD:=⟨23,[.cell 6 97 true,.tmp 7],(.seq (.ops Z11c) (.seq (.ops Z11d) (.seq (.ops Z11e) (.seq (.seq (.ops Z11f) (.cond 16 (.seq (.ops Z11g) .ret) .skip)) (.seq (.ops Z11h) (.seq (.ops Z11i) .ret))))))⟩
theorem ok27:okF Tryz.prog 27 d27=true:=by kernel_rfl
def Z0j8:List J:=[oj 5 (.mv 0),oj 6 (.nilc 5),oj 7 (.fa 1 6),oj 8 (.ld 1 false 7),oj 9 (.bin .eql 8 (ci 0))]
def Z0j9:List J:=[oj 4 (.mv (.const (.slice none 0 0)))]
def Z0ja:List J:=[oj 10 (.mv 4),oj 11 (.mv 0),oj 12 (.nilc 11),oj 13 (.fa 0 12),oj 14 (.ld 1 false 13),oj 15 (.app 5 1 1 [.one (.int .u8 0)] 10 14),oj 4 (.mv 15)]
def Z0jb:List J:=[oj 16 (.mv 0),oj 17 (.mv 4),oj 18 (.mv 1),oj 19 (.app 5 1 1 [.one (.int .u8 0)] 17 18),oj 20 (.nilc 16),oj 21 (.fa 0 20),on_ (.st 1 21 19)]
def d149:FnD:=⟨22,[],(.seq (.ops Z0j8) (.cond 9 (.seq (.ops Z0j9) (.seq (.ops Z0ja) (.ops Z0jb))) .skip))⟩
theorem Z0yq:okF Tryz.prog 149 d149=true:=by kernel_rfl
def Z150:List J:=[oj 4 (.mv 0),oj 5 (.mv 1),oj 6 (.call 149 [4,5])]
def d79:FnD:=⟨7,[],(.ops Z150)⟩
theorem ok79:okF Tryz.prog 79 d79=true:=by kernel_rfl
def Z151:List J:=[oj 2 (.mv (.const (.slice none 0 0)))]
def Z152:List J:=[oj 3 (.mv 0),oj 4 (.bin .lss 3 (ci 1)),oj 5 (.mv 4),.lg true 5 8 none [.op ⟨some 6,(some (5,false)),.mv 0⟩,.op ⟨some 7,(some (5,false)),.bin .gtr 6 (ci 255)⟩] 7]
def Z153:List J:=[oj 2 (.mv (.const (.slice none 0 0)))]
def Z154:List J:=[oj 9 (.mv 0),oj 10 (.conv .u8 9),oj 11 (.bs 5 4 1 [.one (.int .u8 0),.one (.int .u8 0),.one (.int .u8 0),.one (.int .u8 0)] [(0,1,(.const (.int .u8 70))),(1,1,(.const (.int .u8 66))),(2,1,(.const (.int .u8 1))),(3,1,10)]),oj 2 (.mv 11)]
def d80:FnD:=⟨12,[.tmp 2],(.seq (.ops Z151) (.seq (.seq (.ops Z152) (.cond 8 (.seq (.ops Z153) .ret) .skip)) (.seq (.ops Z154) .ret)))⟩
theorem ok80:okF Tryz.prog 80 d80=true:=by kernel_rfl
def Z0jh:List J:=[oj 2 (.mv (.const (.slice none 0 0)))]
def Z0ji:List J:=[oj 3 (.mv 0),oj 4 (.bin .quo 3 (.const (.int .u32 16777216))),oj 5 (.conv .u8 4),oj 6 (.mv 0),oj 7 (.bin .quo 6 (.const (.int .u32 65536))),oj 8 (.conv .u8 7),oj 9 (.mv 0),oj 10 (.bin .quo 9 (.const (.int .u32 256))),oj 11 (.conv .u8 10),oj 12 (.mv 0),oj 13 (.conv .u8 12),oj 14 (.bs 5 4 1 [.one (.int .u8 0),.one (.int .u8 0),.one (.int .u8 0),.one (.int .u8 0)] [(0,1,5),(1,1,8),(2,1,11),(3,1,13)]),oj 2 (.mv 14)]
def d150:FnD:=⟨15,[.tmp 2],(.seq (.ops Z0jh) (.seq (.ops Z0ji) .ret))⟩
theorem Z0yr:okF Tryz.prog 150 d150=true:=by kernel_rfl
def Z155:List J:=[oj 4 (.mv 0),oj 5 (.mv 1),oj 6 (.call 150 [5]),oj 7 (.call 149 [4,6])]
def d81:FnD:=⟨8,[],(.ops Z155)⟩
theorem ok81:okF Tryz.prog 81 d81=true:=by kernel_rfl
def Z127:List J:=[oj 1 (.bx 51 0),oj 2 (.mv (.const (.slice none 0 0)))]
def Z128:List J:=[oj 4 (.fa 0 1),oj 5 (.ld 1 false 4),oj 6 (.bin .lss 5 (ci 1)),oj 7 (.mv 6),.lg true 7 11 none [.op ⟨some 8,(some (7,false)),.fa 0 1⟩,.op ⟨some 9,(some (7,false)),.ld 1 false 8⟩,.op ⟨some 10,(some (7,false)),.bin .gtr 9 (ci 64)⟩] 10]
def Z129:List J:=[oj 2 (.mv (.const (.slice none 0 0)))]
def Z12a:List J:=[oj 3 (.al 119 [.one (.slice none 0 0),.one (.int .i64 0)])]
def Z12b:List J:=[oj 12 (.call 80 [(ci 11)]),oj 13 (.call 79 [3,12])]
def Z12c:List J:=[oj 14 (.fa 0 1),oj 15 (.ld 1 false 14),oj 16 (.conv .u32 15),oj 17 (.call 81 [3,16])]
def Z12d:List J:=[oj 18 (.fa 1 1),oj 19 (.sla 32 1 18 none none none),oj 20 (.call 79 [3,19])]
def Z12e:List J:=[oj 21 (.fa 0 3),oj 22 (.ld 1 false 21),oj 2 (.mv 22)]
def d31:FnD:=⟨23,[.tmp 2],(.seq (.ops Z127) (.seq (.seq (.ops Z128) (.cond 11 (.seq (.ops Z129) .ret) .skip)) (.seq (.ops Z12a) (.seq (.ops Z12b) (.seq (.ops Z12c) (.seq (.ops Z12d) (.seq (.ops Z12e) .ret)))))))⟩
theorem ok31:okF Tryz.prog 31 d31=true:=by kernel_rfl
def Z11j:List J:=[oj 3 (.bx 23 0),oj 5 (.bx 29 2),oj 6 (.al 51 [.one (.int .i64 0),.ints .u8 32 (List.replicate 32 0),.ints .u8 64 (List.replicate 64 0)]),oj 7 (.mv (.const (.bool false)))]
def Z11k:List J:=[oj 9 (.mv 1),oj 10 (.bin .lss 9 (ci 1)),oj 11 (.mv 10),.lg true 11 14 none [.op ⟨some 12,(some (11,false)),.mv 1⟩,.op ⟨some 13,(some (11,false)),.bin .gtr 12 (ci 64)⟩] 13]
def Z11l:List J:=[oj 15 (.bd [.one (.int .i64 0),.ints .u8 32 (List.replicate 32 0),.ints .u8 64 (List.replicate 64 0)] []),on_ (.st 97 6 15),oj 7 (.mv (.const (.bool false)))]
def Z11m:List J:=[oj 16 (.mv 1),oj 17 (.ld 32 true 5),oj 18 (.bd [.one (.int .i64 0),.ints .u8 32 (List.replicate 32 0),.ints .u8 64 (List.replicate 64 0)] [(0,1,16),(1,32,17)]),oj 8 (.al 51 [.one (.int .i64 0),.ints .u8 32 (List.replicate 32 0),.ints .u8 64 (List.replicate 64 0)]),on_ (.st 97 8 18)]
def Z11n:Sch:=(.q [0] (oj 19 (.ld 32 true 3)) (.q [1] (oj 20 (.ld 97 true 8)) (.e 2 (oi 21 (.call 31 [20])) (.e 3 (oi 22 (.call 14 [19,21])) (.p [4] (oj 23 (.fa 33 8)) (.e 5 (oe (.st 64 23 22)) .nil))))))
def Z11o:List J:=[oj 24 (.ld 97 true 8),on_ (.st 97 6 24),oj 7 (.mv (.const (.bool true)))]
def d28:FnD:=⟨25,[.cell 6 97 true,.tmp 7],(.seq (.ops Z11j) (.seq (.seq (.ops Z11k) (.cond 14 (.seq (.ops Z11l) .ret) .skip)) (.seq (.ops Z11m) (.seq (.draw Z11n [5]) (.seq (.ops Z11o) .ret)))))⟩
theorem ok28:okF Tryz.prog 28 d28=true:=by kernel_rfl
def Z11y:List J:=[oj 4 (.mv (.const (.bool false)))]
def Z11z:List J:=[oj 6 (.mv 0),oj 7 (.len 6),oj 8 (.mv 1),oj 9 (.len 8),oj 10 (.bin .neq 7 9)]
def Z120:List J:=[oj 4 (.mv (.const (.bool false)))]
def Z121:List J:=[oj 5 (.mv (ci 0))]
def Z122:List J:=[oj 11 (.mv 5),oj 12 (.mv 0),oj 13 (.len 12),oj 14 (.bin .lss 11 13)]
def Z124:Sch:=(.p [0] (oj 17 (.mv 0)) (.p [1] (oj 18 (.mv 5)) (.p [2] (oj 19 (.ias 1 17 18)) (.p [4] (oj 21 (.mv 1)) (.p [5] (oj 22 (.mv 5)) (.p [6] (oj 23 (.ias 1 21 22)) (.q [3] (oj 20 (.ld 1 false 19)) (.q [7] (oj 24 (.ld 1 false 23)) (.p [8] (oj 25 (.bin .neq 20 24)) .nil)))))))))
def Z125:List J:=[oj 4 (.mv (.const (.bool false)))]
def Z0vz:IC:=(.seq (.draw Z124 []) (.cond 25 (.seq (.ops Z125) .ret) .skip))
def Z123:List J:=[oj 15 (.mv 5),oj 16 (.bin .add 15 (ci 1)),oj 5 (.mv 16)]
def Z0x1:IC:=(.seq (.seq (.ops Z122) (.cond 14 .skip (.exit 0))) (.seq (.block 1 Z0vz) (.ops Z123)))
def Z0vy:IC:=(.loop Z0x1)
def Z126:List J:=[oj 4 (.mv (.const (.bool true)))]
def d30:FnD:=⟨26,[.tmp 4],(.seq (.ops Z11y) (.seq (.seq (.ops Z11z) (.cond 10 (.seq (.ops Z120) .ret) .skip)) (.seq (.seq (.ops Z121) (.block 0 Z0vy)) (.seq (.ops Z126) .ret))))⟩
theorem ok30:okF Tryz.prog 30 d30=true:=by kernel_rfl
def Z12f:List J:=[oj 4 (.mv (.const (.bool false)))]
def Z12g:List J:=[oj 10 (.mv 0),oj 5 (.mv 10)]
def Z12h:List J:=[oj 11 (.mv 1),oj 6 (.mv 11)]
def Z12i:List J:=[oj 7 (.mv (ci 0))]
def Z12j:List J:=[oj 12 (.mv 7),oj 13 (.bin .lss 12 (ci 64))]
def Z12l:List J:=[oj 16 (.mv 5),oj 17 (.bs 5 1 1 [.one (.int .u8 0)] [(0,1,(.const (.int .u8 33)))]),oj 18 (.app 5 1 1 [.one (.int .u8 0)] 16 17),oj 5 (.mv 18)]
def Z0w1:IC:=(.ops Z12l)
def Z12k:List J:=[oj 14 (.mv 7),oj 15 (.bin .add 14 (ci 1)),oj 7 (.mv 15)]
def Z0x2:IC:=(.seq (.seq (.ops Z12j) (.cond 13 .skip (.exit 0))) (.seq (.block 1 Z0w1) (.ops Z12k)))
def Z0w0:IC:=(.loop Z0x2)
def Z12m:List J:=[oj 8 (.mv (ci 0))]
def Z12n:List J:=[oj 19 (.mv 8),oj 20 (.bin .lss 19 (ci 64))]
def Z0t9:List J:=[oj 23 (.mv 6),oj 24 (.bs 5 1 1 [.one (.int .u8 0)] [(0,1,(.const (.int .u8 34)))]),oj 25 (.app 5 1 1 [.one (.int .u8 0)] 23 24),oj 6 (.mv 25)]
def Z0w3:IC:=(.ops Z0t9)
def Z12o:List J:=[oj 21 (.mv 8),oj 22 (.bin .add 21 (ci 1)),oj 8 (.mv 22)]
def Z0x3:IC:=(.seq (.seq (.ops Z12n) (.cond 20 .skip (.exit 2))) (.seq (.block 3 Z0w3) (.ops Z12o)))
def Z0w2:IC:=(.loop Z0x3)
def Z0ta:List J:=[oj 26 (.mv 0),oj 27 (.len 26),oj 9 (.mv 27)]
def Z0tb:List J:=[oj 28 (.mv 9),oj 29 (.mv 5),oj 30 (.len 29),oj 31 (.bin .lss 28 30)]
def Z0td:List J:=[oj 34 (.mv 5),oj 35 (.mv 9),oj 36 (.ias 1 34 35),oj 37 (.ld 1 false 36),oj 38 (.bin .neq 37 (.const (.int .u8 33)))]
def Z0te:List J:=[oj 4 (.mv (.const (.bool false)))]
def Z0w5:IC:=(.seq (.ops Z0td) (.cond 38 (.seq (.ops Z0te) .ret) .skip))
def Z0tc:List J:=[oj 32 (.mv 9),oj 33 (.bin .add 32 (ci 1)),oj 9 (.mv 33)]
def Z0x4:IC:=(.seq (.seq (.ops Z0tb) (.cond 31 .skip (.exit 4))) (.seq (.block 5 Z0w5) (.ops Z0tc)))
def Z0w4:IC:=(.loop Z0x4)
def Z0tf:List J:=[oj 39 (.mv 6),oj 40 (.len 39),oj 41 (.mv 1),oj 42 (.len 41),oj 43 (.bin .add 42 (ci 64)),oj 44 (.bin .eql 40 43),oj 4 (.mv 44)]
def d32:FnD:=⟨45,[.tmp 4],(.seq (.ops Z12f) (.seq (.ops Z12g) (.seq (.ops Z12h) (.seq (.seq (.ops Z12i) (.block 0 Z0w0)) (.seq (.seq (.ops Z12m) (.block 2 Z0w2)) (.seq (.seq (.ops Z0ta) (.block 4 Z0w4)) (.seq (.ops Z0tf) .ret)))))))⟩
theorem ok32:okF Tryz.prog 32 d32=true:=by kernel_rfl
def r6_0:List J:=[oj 4 (.bx 23 0),oj 6 (.bx 29 2),oj 7 (.bx 51 3),oj 8 (.mv (.const (.bool false)))]
def r6_1:List J:=[oj 20 (.ld 32 true 4),oj 21 (.mv 1),oj 22 (.ld 32 true 6),oj 23 (.call 27 [20,21,22]),oj 19 (.mv 23),oj 24 (.ext 19 0),oj 25 (.ext 19 1),oj 9 (.al 51 [.one (.int .i64 0),.ints .u8 32 (List.replicate 32 0),.ints .u8 64 (List.replicate 64 0)]),on_ (.st 97 9 24),oj 10 (.mv 25)]
def r6_2:List J:=[oj 27 (.ld 32 true 4),oj 28 (.mv 1),oj 29 (.ld 32 true 6),oj 30 (.call 28 [27,28,29]),oj 26 (.mv 30),oj 31 (.ext 26 0),oj 32 (.ext 26 1),oj 11 (.al 51 [.one (.int .i64 0),.ints .u8 32 (List.replicate 32 0),.ints .u8 64 (List.replicate 64 0)]),on_ (.st 97 11 31),oj 12 (.mv 32)]
def r6_3:List J:=[oj 33 (.ld 97 true 9),oj 34 (.ld 97 true 11),oj 35 (.eqa true [(.i .i64,1),(.i .u8,96)] 33 34),oj 36 (.mv 35),.lg true 36 40 none [.op ⟨some 37,(some (36,false)),.mv 10⟩,.op ⟨some 38,(some (36,false)),.mv 12⟩,.op ⟨some 39,(some (36,false)),.beq true 37 38⟩] 39]
def r6_4:List J:=[oj 8 (.mv (.const (.bool false)))]
def r6_5:List J:=[oj 41 (.ld 97 true 7),oj 42 (.call 29 [41]),oj 13 (.mv 42)]
def r6_6:List J:=[oj 43 (.ld 97 true 9),oj 44 (.call 29 [43]),oj 14 (.mv 44)]
def r6_7:List J:=[oj 45 (.ld 97 true 7),oj 46 (.call 29 [45]),oj 15 (.mv 46)]
def r6_8:List J:=[oj 47 (.mv 13),oj 48 (.ld 97 true 7),oj 49 (.call 31 [48]),oj 50 (.call 30 [47,49]),oj 51 (.un .not 50),oj 52 (.mv 51),.op ⟨some 53,(some (52,false)),.mv 14⟩,.op ⟨some 54,(some (52,false)),.ld 97 true 11⟩,.op ⟨some 55,(some (52,false)),.call 31 [54]⟩,.op ⟨some 56,(some (52,false)),.call 30 [53,55]⟩,.op ⟨some 57,(some (52,false)),.un .not 56⟩,oj 58 (.pick 52 (.const (.bool true)) 57),oj 59 (.mv 58),.op ⟨some 60,(some (59,false)),.mv 15⟩,.op ⟨some 61,(some (59,false)),.ld 97 true 7⟩,.op ⟨some 62,(some (59,false)),.call 31 [61]⟩,.op ⟨some 63,(some (59,false)),.call 30 [60,62]⟩,.op ⟨some 64,(some (59,false)),.un .not 63⟩,oj 65 (.pick 59 (.const (.bool true)) 64)]
def r6_9:List J:=[oj 8 (.mv (.const (.bool false)))]
def Z14e:List J:=[oj 16 (.mv (ci 0))]
def Z14f:List J:=[oj 66 (.mv 16),oj 67 (.mv 13),oj 68 (.len 67),oj 69 (.bin .lss 66 68)]
def Z14h:List J:=[oj 72 (.mv 13),oj 73 (.mv 16),oj 74 (.ias 1 72 73),on_ (.st 1 74 (.const (.int .u8 51)))]
def k6_1:IC:=(.ops Z14h)
def Z14g:List J:=[oj 70 (.mv 16),oj 71 (.bin .add 70 (ci 1)),oj 16 (.mv 71)]
def l6_1:IC:=(.seq (.seq (.ops Z14f) (.cond 69 .skip (.exit 0))) (.seq (.block 1 k6_1) (.ops Z14g)))
def k6_0:IC:=(.loop l6_1)
def Z14i:List J:=[oj 75 (.mv 13),oj 17 (.mv 75)]
def Z14j:List J:=[oj 18 (.mv (ci 0))]
def Z14k:List J:=[oj 76 (.mv 18),oj 77 (.bin .lss 76 (ci 200))]
def Z14m:List J:=[oj 80 (.mv 17),oj 81 (.bs 5 1 1 [.one (.int .u8 0)] [(0,1,(.const (.int .u8 68)))]),oj 82 (.app 5 1 1 [.one (.int .u8 0)] 80 81),oj 17 (.mv 82)]
def k6_3:IC:=(.ops Z14m)
def Z14l:List J:=[oj 78 (.mv 18),oj 79 (.bin .add 78 (ci 1)),oj 18 (.mv 79)]
def l6_2:IC:=(.seq (.seq (.ops Z14k) (.cond 77 .skip (.exit 2))) (.seq (.block 3 k6_3) (.ops Z14l)))
def k6_2:IC:=(.loop l6_2)
def Z14n:List J:=[oj 83 (.mv 17),oj 84 (.len 83),oj 85 (.mv 13),oj 86 (.len 85),oj 87 (.bin .add 86 (ci 200)),oj 88 (.bin .eql 84 87),oj 89 (.mv 88),.op ⟨some 90,(some (89,true)),.mv 14⟩,.op ⟨some 91,(some (89,true)),.ld 97 true 11⟩,.op ⟨some 92,(some (89,true)),.call 31 [91]⟩,.op ⟨some 93,(some (89,true)),.call 30 [90,92]⟩,oj 94 (.pick 89 93 (.const (.bool false))),oj 95 (.mv 94),.op ⟨some 96,(some (95,true)),.mv 15⟩,.op ⟨some 97,(some (95,true)),.ld 97 true 7⟩,.op ⟨some 98,(some (95,true)),.call 31 [97]⟩,.op ⟨some 99,(some (95,true)),.call 30 [96,98]⟩,oj 100 (.pick 95 99 (.const (.bool false))),oj 101 (.mv 100),.op ⟨some 102,(some (101,true)),.mv 13⟩,.op ⟨some 103,(some (101,true)),.mv 14⟩,.op ⟨some 104,(some (101,true)),.call 32 [102,103]⟩,oj 105 (.pick 101 104 (.const (.bool false))),oj 106 (.mv 105),.op ⟨some 107,(some (106,true)),.mv 14⟩,.op ⟨some 108,(some (106,true)),.mv 15⟩,.op ⟨some 109,(some (106,true)),.call 32 [107,108]⟩,oj 110 (.pick 106 109 (.const (.bool false))),oj 8 (.mv 110)]
def d6:FnD:=⟨111,[.tmp 8],(.seq (.ops r6_0) (.seq (.ops r6_1) (.seq (.ops r6_2) (.seq (.seq (.ops r6_3) (.cond 40 (.seq (.ops r6_4) .ret) .skip)) (.seq (.ops r6_5) (.seq (.ops r6_6) (.seq (.ops r6_7) (.seq (.seq (.ops r6_8) (.cond 65 (.seq (.ops r6_9) .ret) .skip)) (.seq (.seq (.ops Z14e) (.block 0 k6_0)) (.seq (.ops Z14i) (.seq (.seq (.ops Z14j) (.block 2 k6_2)) (.seq (.ops Z14n) .ret))))))))))))⟩
theorem ok6:okF Tryz.prog 6 d6=true:=by kernel_rfl
theorem mo:Tryz.prog.follows .mixedOrders=true:=by kernel_rfl
theorem Zfk:ExtF Tryz.prog 158 add64Entry:=⟨Tryz.f158,Tryz.func158,by kernel_rfl,by kernel_rfl,by kernel_rfl,by kernel_rfl⟩
theorem Z021:ExtF Tryz.prog 190 Zf0:=⟨Tryz.f190,Tryz.func190,by kernel_rfl,by kernel_rfl,by kernel_rfl,by kernel_rfl⟩
def ng:Nat:=5
def G_rfirst:List Int:=[7640891576956012808,13503953896175478587,4354685564936845355,11912009170470909681,5840696475078001361,11170449401992604703,2270897969802886507,6620516959819538809]
def G_order:List Int:=[6346243789798364141,1503914060200516822,0,1152921504606846976]
def G_first:List Int:=[7640891576956012808,13503953896175478587,4354685564936845355,11912009170470909681,5840696475078001361,11170449401992604703,2270897969802886507,6620516959819538809]
def G_rtable:List Int:=[4794697086780616226,8158064640168781261,13096744586834688815,16840607885511220156,4131703408338449720,6480981068601479193,10538285296894168987,12329834152419229976,15566598209576043074,1334009975649890238,2608012711638119052,6128411473006802146,8268148722764581231,9286055187155687089,11230858885718282805,13951009754708518548,16472876342353939154,17275323862435702243,1135362057144423861,2597628984639134821,3308224258029322869,5365058923640841347,6679025012923562964,8573033837759648693,10970295158949994411,12119686244451234320,12683024718118986047,13788192230050041572,14330467153632333762,15395433587784984357,489312712824947311,1452737877330783856,2861767655752347644,3322285676063803686,5560940570517711597,5996557281743188959,7280758554555802590,8532644243296465576,9350256976987008742,10552545826968843579,11727347734174303076,12113106623233404929,14000437183269869457,14369950271660146224,15101387698204529176,15463397548674623760,17586052441742319658,1182934255886127544,1847814050463011016,2177327727835720531,2830643537854262169,3796741975233480872,4115178125766777443,5681478168544905931,6601373596472566643,7507060721942968483,8399075790359081724,8693463985226723168,9568029438360202098,10144078919501101548,10430055236837252648,11840083180663258601,13761210420658862357,14299343276471374635,14566680578165727644,15097957966210449927,16922976911328602910,17689382322260857208,500013540394364858,748580250866718886,1242879168328830382,1977374033974150939,2944078676154940804,3659926193048069267,4368137639120453308,4836135668995329356,5532061633213252278,6448918945643986474,6902733635092675308,7801388544844847127]
def G_table:List Int:=[4794697086780616226,8158064640168781261,13096744586834688815,16840607885511220156,4131703408338449720,6480981068601479193,10538285296894168987,12329834152419229976,15566598209576043074,1334009975649890238,2608012711638119052,6128411473006802146,8268148722764581231,9286055187155687089,11230858885718282805,13951009754708518548,16472876342353939154,17275323862435702243,1135362057144423861,2597628984639134821,3308224258029322869,5365058923640841347,6679025012923562964,8573033837759648693,10970295158949994411,12119686244451234320,12683024718118986047,13788192230050041572,14330467153632333762,15395433587784984357,489312712824947311,1452737877330783856,2861767655752347644,3322285676063803686,5560940570517711597,5996557281743188959,7280758554555802590,8532644243296465576,9350256976987008742,10552545826968843579,11727347734174303076,12113106623233404929,14000437183269869457,14369950271660146224,15101387698204529176,15463397548674623760,17586052441742319658,1182934255886127544,1847814050463011016,2177327727835720531,2830643537854262169,3796741975233480872,4115178125766777443,5681478168544905931,6601373596472566643,7507060721942968483,8399075790359081724,8693463985226723168,9568029438360202098,10144078919501101548,10430055236837252648,11840083180663258601,13761210420658862357,14299343276471374635,14566680578165727644,15097957966210449927,16922976911328602910,17689382322260857208,500013540394364858,748580250866718886,1242879168328830382,1977374033974150939,2944078676154940804,3659926193048069267,4368137639120453308,4836135668995329356,5532061633213252278,6448918945643986474,6902733635092675308,7801388544844847127]
structure Globs (W:World):Prop where
  g0:Mem W 0 0 [.ints .u64 8 G_rfirst]
  g1:Mem W 1 0 [.ints .u64 4 G_order]
  g2:Mem W 2 0 [.ints .u64 8 G_first]
  g3:Mem W 3 0 [.ints .u64 80 G_rtable]
  g4:Mem W 4 0 [.ints .u64 80 G_table]
theorem Globs.at {C:Cfg} {m:List Zf} {w:World} (h:Globs C.W0) (hw:Sat C.W0 C.S m w) (hS : ∀ g,g<ng→g∉C.S):Globs w:=⟨Zdm h.g0 (hS 0 (by decide)) hw,Zdm h.g1 (hS 1 (by decide)) hw,Zdm h.g2 (hS 2 (by decide)) hw,Zdm h.g3 (hS 3 (by decide)) hw,Zdm h.g4 (hS 4 (by decide)) hw⟩
theorem Globs.ap {C:Cfg} {m:List Zf} {w:World} {b:Nat} {o:Obj} (h:Globs C.W0) (hS : ∀ g,g<ng→g∉C.S) (hb:Has b o m) (hw:Sat C.W0 C.S m w) : ∀ g,g<ng→g ∉ [b]:=by
  intro g hg hm
  simp only [List.mem_singleton] at hm
  subst hm
  rcases hw.base _ hb.mem with h1 | h1
  · have h2 : ∀ g,g<ng→g<C.W0.heap.size:=fun g hg=>match g,hg with
      | 0,_=>h.g0.lt
      | 1,_=>h.g1.lt
      | 2,_=>h.g2.lt
      | 3,_=>h.g3.lt
      | 4,_=>h.g4.lt
    exact absurd h1 (Nat.not_le.2 (h2 _ hg))
  · exact hS _ hg h1
structure Zs where
  gstate:List Int
  gheld:List Int
  ghave:Int
  glength:Int
def Z9s:Option (Zs) :=
 some (⟨G_first,(List.replicate 128 0),0,0⟩:Zs)
theorem Zee {W:World} {r:Zs} (h:Z9s=some r) (hG:Globs W) :
    Calls Tryz.prog 96 [].toArray W (Zc0 W [] (fun v Ms=>∃ (b0:Nat) (T0:TypeId),v = .pointer (some ⟨b0,0,none⟩)∧Ms = [.one (ck b0 T0 [.ints .u64 8 (r.gstate),.ints .u8 128 (r.gheld),.one (.int .i64 (r.ghave)),.one (.int .u64 (r.glength))])])):=by
 unfold Z9s at h
 refine Z02 mo ok96 rfl (Zgo _) ?_
 refine Z0<|Z2<|Z7 rfl<|Z1<|Z0<|Z2<|Z6 _ (Zti (o0:=0) (off:=0) rfl (hG.g2) (by simp) rfl)<|Z6 _ (Zgu (q:=[.ints .u64 8 (G_first),.ints .u8 128 ((List.replicate 128 0)),.one (.int .i64 (0)),.one (.int .u64 (0))]) (.agg rfl rfl rfl BdR.nil))<|Zd (Z0e (s:=[.ints .u64 8 (G_first),.ints .u8 128 ((List.replicate 128 0)),.one (.int .i64 (0)),.one (.int .u64 (0))]) rfl fun b3 hb3=>Z7 rfl<|Z1<|Zm ?_)
 revert h; refine Zw fun h=>?_
 subst h
 exact ⟨_,_,(.cons (.tmp rfl) .nil),(.one .here .nil),⟨_,rfl,⟨b3,194,rfl,rfl⟩⟩⟩
def Z6b (k29:(Int)→Option (Int)) (k45:(Int)→(Int)→Option (Int)) (i43:Int) (i44:Int):Option (Int) :=
 br ((i44 != 0)) (
 bnd (IntKind.wrap .i64 (i43+1)) fun z50 =>
 bnd (Zn .u64 i44 1) fun z52 =>
 k45 z50 z52
 ) (
 k29 i43
 )
def Z3e (k29:(Int)→Option (Int)):Nat→(Int)→(Int)→Option (Int)
  | 0,_,_=>none
  | n+1,i43,i44=>Z6b k29 (Z3e k29 n) i43 i44
def Z2o:Option (Int) :=
 bnd (Z4 .xor .u64 18446744073709551615 0) fun z4 =>
 jn (fun (i28:Int)=>some i28) fun k29=>Z3e k29 big 0 z4
theorem Z3s {W:World} {r:Int} (h:Z2o=some r)  :
    Calls Tryz.prog 183 [].toArray W (Z2s W (.int .i64 (r))):=by
 unfold Z2o at h
 refine Zc mo Z0zl rfl ?_
 refine Z0<|Z2<|Z7 rfl<|Z1<|Z0<|Z2<|Z7 rfl<|Z1<|Z0<|Z0<|bH h fun z4 ez4 h=>Z2<|Z6 _ (Z3k rfl)<|Z6 _ (iz ez4 (Zyr rfl rfl))<|Z7 rfl<|Z1<|jH h fun k29 qk29 h=>Zh (G:=fun t m=>∃ (i28:Int),k29 i28=some r∧Fit [(1,.int .i64 (i28))] [] t m) ?_ ?_
 ·refine Za<|Zo (fun n46 t m=>∃ (i43:Int) (i44:Int),Z3e k29 n46 i43 i44=some r∧Fit [(1,.int .i64 (i43)),(2,.int .u64 (i44))] [] t m) big ?_ ?_
  ·exact ⟨0,z4,h,⟨⟨rfl,rfl,trivial⟩,.nil⟩⟩
  ·rintro n46 t m ⟨i43,i44,h,hF⟩
   refine Zg hF ?_
   clear hF
   rcases n46 with _ | n46
   · exact Z05 h
   have h:Z6b k29 (Z3e k29 n46) i43 i44=some r:=h
   unfold Z6b at h
   obtain ⟨k45,qk45⟩ : ∃ k,k=Z3e k29 n46:=⟨_,rfl⟩
   try rw [← qk45] at h
   refine Z0<|Z0<|Z2<|Z7 rfl<|Z6 _ (Z9 rfl rfl rfl)<|Z1<|Z07 h rfl (fun h=>?_) (fun h=>?_)
   ·refine Zk<|Z0<|Za<|bH h fun z50 ez50 h=>Z2<|Z7 rfl<|Z6 _ (iz ez50 (Z9 rfl rfl rfl))<|Z7 rfl<|Z1<|bH h fun z52 ez52 h=>Z2<|Z7 rfl<|Z6 _ (iz ez52 (Z4i rfl rfl (by decide)))<|Z7 rfl<|Z1 ?_
    rw [qk45] at h
    exact ⟨n46,Nat.lt_succ_self _,z50,z52,h,⟨⟨rfl,rfl,trivial⟩,.nil⟩⟩
   ·exact Zv _ rfl<|⟨i43,h,⟨⟨rfl,trivial⟩,.nil⟩⟩
 ·rintro t m ⟨i28,h,hF⟩
  refine Zg hF ?_
  clear hF
  subst qk29
  refine Z0<|Z2<|Z7 rfl<|Z7 rfl<|Z1<|Zm ?_
  revert h; refine Zw fun h=>?_
  subst h
  exact ⟨_,(.cons (.tmp rfl) .nil),rfl⟩
def Z3m (p0:List Int) (p1:Int):Option ((Bool×List Int)) :=
 opt (Z2o) fun y3 =>
 bnd (IntKind.wrap .i64 (Int.tdiv y3 8)) fun z4 =>
 br (((decide (p1<0))||(decide (p1>IntKind.wrap .i64 ((p0.length:Int)-z4))))) (
 some (true,[])
 ) (
 bnd (IntKind.wrap .i64 (p1+z4)) fun z9 =>
 chk (Zks p1 z9 p0.length) <|
 chk (decide (0<((p0.drop (p1).toNat).take ((z9).toNat-(p1).toNat)).length)) <|
 some (false,((p0.drop (p1).toNat).take ((z9).toNat-(p1).toNat)))
 )
theorem Z7v {W:World} {r:(Bool×List Int)} {p0:List Int} {p1:Int} {v0:Value} (h:Z3m p0 p1=some r) (A0:Z4y (El.int .u8) W v0 p0) :
    Calls Tryz.prog 203 [v0,.int .i64 (p1)].toArray W (Zc0 W [] (fun v Ms=>∃ (u0:Value),v=u0∧Ms = []∧Shp u0 (r.2).length∧Zo2 u0=r.1∧(∀ W,Z4y (El.int .u8) W v0 p0→Z4y (El.int .u8) W u0 r.2))):=by
 unfold Z3m at h
 refine Z02 mo Z0zz rfl (Zgo _) ?_
 refine Z0<|Z2<|Z7 rfl<|Z1<|Z0<|oH h fun y3 ey3 h=>bH h fun z4 ez4 h=>Z2<|Z6 _ (Z0g rfl (Z3s ey3))<|Z6 _ (iz ez4 (Z98 rfl rfl (by decide)))<|Z7 rfl<|Z1<|Z0<|Z0<|Z2<|Z7 rfl<|Z6 _ (Z9 rfl rfl rfl)<|Z7 rfl<|Zql rfl rfl rfl (fun hg1=>Zie rfl _ (Z0u rfl) (Zie rfl _ (Z0u rfl) (Zie rfl _ (Z25 rfl (Shp.rd A0)) (Zie rfl _ (Z0u rfl) (Zie rfl _ (iz rfl (Z9 rfl rfl rfl)) (Zie rfl _ (Z9 rfl rfl rfl) (Ze9))))))) (fun hg1=>rfl) rfl<|Z1<|Z07 h rfl (fun h=>?_) (fun h=>?_)
 ·refine Z0<|Z2<|Z7 rfl<|Z1<|Zm ?_
  revert h; refine Zw fun h=>?_
  subst h
  exact ⟨_,_,(.cons (.tmp rfl) .nil),.nil,⟨_,rfl,⟨(.slice none 0 0),rfl,rfl,Shp.nil,rfl,Zzq⟩⟩⟩
 ·refine Zk<|Z0<|bH h fun z9 ez9 h=>cH h fun c10 h=>Z2<|Z7 rfl<|Z7 rfl<|Z7 rfl<|Z7 rfl<|Z6 _ (iz ez9 (Z9 rfl rfl rfl))<|Z6 _ (Zrx (lz:=p1) (hz:=z9) rfl (Shp.rd A0) (.yes rfl) (.yes rfl) c10)<|Z7 rfl<|Z1<|Zm<|cH h fun c11 h=>?_
  revert h; refine Zw fun h=>?_
  subst h
  exact ⟨_,_,(.cons (.tmp rfl) .nil),.nil,⟨_,rfl,⟨(Zdb 1 v0 (p1).toNat (z9).toNat),rfl,rfl,(Shp.cut (Shp.rd A0) (lz:=p1) (hz:=z9) c10),(Shp.notnil (Shp.cut (Shp.rd A0) (lz:=p1) (hz:=z9) c10) c11),(fun W A0=>(Z0ug A0 (lz:=p1) (hz:=z9) c10))⟩⟩⟩
def Z2v (y4:(Bool×List Int)) (k50:(Int)→Option (Int×Bool)) (k75:(Int)→(Int)→Option (Int×Bool)) (i73:Int) (i74:Int):Option (Int×Bool) :=
 br ((decide (i74<(y4.2.length:Int)))) (
 chk (inB i74 y4.2.length) <|
 bnd (y4.2.getD (i74).toNat 0) fun z81 =>
 bnd (Zj .u64 i73 8) fun z83 =>
 bnd (IntKind.wrap .u64 z81) fun z84 =>
 bnd (Z4 .or .u64 z83 z84) fun z85 =>
 bnd (IntKind.wrap .i64 (i74+1)) fun z87 =>
 k75 z85 z87
 ) (
 k50 i73
 )
def Z0l (y4:(Bool×List Int)) (k50:(Int)→Option (Int×Bool)):Nat→(Int)→(Int)→Option (Int×Bool)
  | 0,_,_=>none
  | n+1,i73,i74=>Z2v y4 k50 (Z0l y4 k50 n) i73 i74
def Z3x (p0:List Int) (p1:Int):Option (Int×Bool) :=
 opt (Z3m p0 p1) fun y4 =>
 jn (fun (i49:Int)=>some (i49,(!y4.1))) fun k50=>Z0l y4 k50 big 0 0
theorem Zce {W:World} {r:Int×Bool} {p0:List Int} {p1:Int} {v0:Value} (h:Z3x p0 p1=some r) (A0:Z4y (El.int .u8) W v0 p0) :
    Calls Tryz.prog 218 [v0,.int .i64 (p1)].toArray W (Z2s W (.tuple #[.int .u64 (r.1),.bool (r.2)])):=by
 unfold Z3x at h
 refine Zc mo Z10a rfl ?_
 refine Z0<|Z2<|Z7 rfl<|Z7 rfl<|Z1<|Z0<|Z2<|Z7 rfl<|Z1<|Z0<|oH h fun y4 ey4 h=>Z2<|Z7 rfl<|Z7 rfl<|Zd (Zz rfl (fun w hw=>Z7v  ey4 ((Z16 A0 Z1f) w hw)) fun v5 Msv5 R6=>?_)
 obtain ⟨_,rfl,rfl,P10,N8,H9⟩:=R6
 refine Z7 rfl<|Z1<|Z0<|Z0<|Z2<|Z7 rfl<|Z6 _ (Z25 rfl P10)<|Z7 rfl<|Z1<|jH h fun k50 qk50 h=>Zh (G:=fun t m=>∃ (i49:Int),k50 i49=some r∧Fit [(6,.int .u64 (i49)),(7,v5)] [] t m) ?_ ?_
 ·refine Za<|Zo (fun n76 t m=>∃ (i73:Int) (i74:Int),Z0l y4 k50 n76 i73 i74=some r∧Fit [(6,.int .u64 (i73)),(7,v5),(13,v5),(14,.int .i64 ((y4.2.length:Int))),(15,.int .i64 (i74))] [] t m) big ?_ ?_
  ·exact ⟨0,0,h,⟨⟨rfl,rfl,rfl,rfl,rfl,trivial⟩,.nil⟩⟩
  ·rintro n76 t m ⟨i73,i74,h,hF⟩
   refine Zg hF ?_
   clear hF
   rcases n76 with _ | n76
   · exact Z05 h
   have h:Z2v y4 k50 (Z0l y4 k50 n76) i73 i74=some r:=h
   unfold Z2v at h
   obtain ⟨k75,qk75⟩ : ∃ k,k=Z0l y4 k50 n76:=⟨_,rfl⟩
   try rw [← qk75] at h
   refine Z0<|Z2<|Z6 _ (Z9 rfl rfl rfl)<|Z1<|Z0<|Z07 h rfl (fun h=>?_) (fun h=>?_)
   ·refine Zk<|Z0<|Za<|Z0<|cH h fun c80 h=>bH h fun z81 ez81 h=>Z2<|Z6 _ (Z32 rfl rfl P10 c80)<|Z6 _ (iz ez81 (Z33 (E:=(El.int .u8)) (s:=[.one (.int .u8 (y4.2.getD (i74).toNat 0))]) rfl (Zw8 H9 (Z16 A0 Z1f)) (Z01 c80) rfl rfl))<|Z7 rfl<|Z1<|bH h fun z83 ez83 h=>bH h fun z84 ez84 h=>bH h fun z85 ez85 h=>Z2<|Z7 rfl<|Z6 _ (iz ez83 (Zid rfl rfl (by decide)))<|Z7 rfl<|Z6 _ (iz ez84 (Z3k rfl))<|Z6 _ (iz ez85 (Z9 rfl rfl rfl))<|Z7 rfl<|Z1<|bH h fun z87 ez87 h=>Z2<|Z6 _ (iz ez87 (Z9 rfl rfl rfl))<|Z7 rfl<|Z1 ?_
    rw [qk75] at h
    exact ⟨n76,Nat.lt_succ_self _,z85,z87,h,⟨⟨rfl,rfl,rfl,rfl,rfl,trivial⟩,.nil⟩⟩
   ·exact Zv _ rfl<|⟨i73,h,⟨⟨rfl,rfl,trivial⟩,.nil⟩⟩
 ·rintro t m ⟨i49,h,hF⟩
  refine Zg hF ?_
  clear hF
  subst qk50
  refine Z0<|Z2<|Z7 rfl<|Z7 rfl<|Z6 _ (Zvz rfl P10 N8)<|Z7 rfl<|Z7 rfl<|Z1<|Zm ?_
  revert h; refine Zw fun h=>?_
  subst h
  exact ⟨_,(.cons (.tmp rfl) (.cons (.tmp rfl) .nil)),rfl⟩
def Z3c (p0:Int) (p1:Int):Option (Int) :=
 opt (Z2o) fun y3 =>
 bnd (IntKind.wrap .u64 p1) fun z5 =>
 bnd (IntKind.wrap .i64 (y3-1)) fun z6 =>
 bnd (IntKind.wrap .u64 z6) fun z7 =>
 bnd (Z4 .and .u64 z5 z7) fun z8 =>
 chk (decide (0≤z8)) <|
 bnd (Zn .u64 p0 z8) fun z11 =>
 bnd (IntKind.wrap .u64 y3) fun z12 =>
 bnd (IntKind.wrap .u64 (z12-z8)) fun z13 =>
 chk (decide (0≤z13)) <|
 bnd (Zj .u64 p0 z13) fun z15 =>
 bnd (Z4 .or .u64 z11 z15) fun z16 =>
 some z16
theorem Z2x {W:World} {r:Int} {p0:Int} {p1:Int} (h:Z3c p0 p1=some r)  :
    Calls Tryz.prog 220 [.int .u64 (p0),.int .i64 (p1)].toArray W (Z2s W (.int .u64 (r))):=by
 unfold Z3c at h
 refine Zc mo Z10c rfl ?_
 refine Z0<|Z2<|Z7 rfl<|Z1<|Z0<|oH h fun y3 ey3 h=>Z2<|Z6 _ (Z0g rfl (Z3s ey3))<|Z7 rfl<|Z1<|Z0<|bH h fun z5 ez5 h=>bH h fun z6 ez6 h=>bH h fun z7 ez7 h=>bH h fun z8 ez8 h=>Z2<|Z7 rfl<|Z6 _ (iz ez5 (Z3k rfl))<|Z7 rfl<|Z6 _ (iz ez6 (Z9 rfl rfl rfl))<|Z6 _ (iz ez7 (Z3k rfl))<|Z6 _ (iz ez8 (Z9 rfl rfl rfl))<|Z7 rfl<|Z1<|Z0<|cH h fun c10 h=>bH h fun z11 ez11 h=>bH h fun z12 ez12 h=>bH h fun z13 ez13 h=>cH h fun c14 h=>bH h fun z15 ez15 h=>bH h fun z16 ez16 h=>Z2<|Z7 rfl<|Z7 rfl<|Z6 _ (iz ez11 (Z4i rfl rfl (of_decide_eq_true c10)))<|Z7 rfl<|Z7 rfl<|Z6 _ (iz ez12 (Z3k rfl))<|Z7 rfl<|Z6 _ (iz ez13 (Z9 rfl rfl rfl))<|Z6 _ (iz ez15 (Zid rfl rfl (of_decide_eq_true c14)))<|Z6 _ (iz ez16 (Z9 rfl rfl rfl))<|Z7 rfl<|Z1<|Zm ?_
 revert h; refine Zw fun h=>?_
 subst h
 exact ⟨_,(.cons (.tmp rfl) .nil),rfl⟩
def Z89 (p0:Int) (p1:Int) (p2:Int) (p3:Int):Option (Int) :=
 opt (Z3c p0 p1) fun y3 =>
 opt (Z3c p0 p2) fun y4 =>
 bnd (Z4 .xor .u64 y3 y4) fun z5 =>
 chk (decide (0≤p3)) <|
 bnd (Zn .u64 p0 p3) fun z7 =>
 bnd (Z4 .xor .u64 z5 z7) fun z8 =>
 some z8
theorem Zd0 {W:World} {r:Int} {p0:Int} {p1:Int} {p2:Int} {p3:Int} (h:Z89 p0 p1 p2 p3=some r)  :
    Calls Tryz.prog 219 [.int .u64 (p0),.int .i64 (p1),.int .i64 (p2),.int .i64 (p3)].toArray W (Z2s W (.int .u64 (r))):=by
 unfold Z89 at h
 refine Zc mo Z10b rfl ?_
 refine Z0<|Z2<|Z7 rfl<|Z1<|Z0<|oH h fun y3 ey3 h=>oH h fun y4 ey4 h=>bH h fun z5 ez5 h=>cH h fun c6 h=>bH h fun z7 ez7 h=>bH h fun z8 ez8 h=>Zu<|Z8 _ (Z0u rfl)<|Z8 _ (Z0u rfl)<|Z8 _ (Z0g rfl (Z2x ey3))<|Z8 _ (Z0u rfl)<|Z8 _ (Z0u rfl)<|Z8 _ (Z0g rfl (Z2x ey4))<|Z8 _ (iz ez5 (Z9 rfl rfl rfl))<|Z8 _ (Z0u rfl)<|Z8 _ (Z0u rfl)<|Z8 _ (iz ez7 (Z4i rfl rfl (of_decide_eq_true c6)))<|Z8 _ (iz ez8 (Z9 rfl rfl rfl))<|Z8 _ (Z0u rfl)<|Z03<|Zm ?_
 revert h; refine Zw fun h=>?_
 subst h
 exact ⟨_,(.cons (.tmp rfl) .nil),rfl⟩
def Z43 (p0:List Int) (k152:(List Int)→OL) (k233:(Int)→(List Int)→OL) (i231:Int) (a232:List Int):OL :=
 br ((decide (i231<80))) (
 jn (fun (a265:List Int)=>bnd (IntKind.wrap .i64 (i231+1)) fun z296 =>
 k233 z296 a265) fun k266=>br ((decide (i231<16))) (
 bnd (IntKind.wrap .i64 (8*i231)) fun z271 =>
 opt (Z3x (tk p0 0 128) z271) fun y272 =>
 chk (inB i231 80) <|
 bnd (Z21 a232 (i231).toNat y272.1) fun l274 =>
 k266 l274
 ) (
 bnd (IntKind.wrap .i64 (i231-2)) fun z276 =>
 chk (inB z276 80) <|
 bnd (IntKind.wrap .i64 (i231-7)) fun z278 =>
 chk (inB z278 80) <|
 bnd (IntKind.wrap .i64 (i231-15)) fun z280 =>
 chk (inB z280 80) <|
 bnd (IntKind.wrap .i64 (i231-16)) fun z282 =>
 chk (inB z282 80) <|
 bnd (a232.getD (z276).toNat 0) fun z284 =>
 opt (Z89 z284 19 61 6) fun y285 =>
 bnd (a232.getD (z278).toNat 0) fun z286 =>
 bnd (IntKind.wrap .u64 (y285+z286)) fun z287 =>
 bnd (a232.getD (z280).toNat 0) fun z288 =>
 opt (Z89 z288 1 8 7) fun y289 =>
 bnd (IntKind.wrap .u64 (z287+y289)) fun z290 =>
 bnd (a232.getD (z282).toNat 0) fun z291 =>
 bnd (IntKind.wrap .u64 (z290+z291)) fun z292 =>
 chk (inB i231 80) <|
 bnd (Z21 a232 (i231).toNat z292) fun l294 =>
 k266 l294
 )
 ) (
 k152 a232
 )
def Z1d (p0:List Int) (k152:(List Int)→OL):Nat→(Int)→(List Int)→OL
  | 0,_,_=>none
  | n+1,i231,a232=>Z43 p0 k152 (Z1d p0 k152 n) i231 a232
def Z64 (p0:List Int):OL :=
 jn (fun (a151:List Int)=>some a151) fun k152=>Z1d p0 k152 big 0 (List.replicate 80 0)
theorem Zf4 {W:World} {r:(List Int)} {p0:List Int} (h:Z64 p0=some r)  :
    Calls Tryz.prog 201 [agg [.ints .u8 128 (p0)]].toArray W (Z2s W (agg [.ints .u64 80 (r)])):=by
 unfold Z64 at h
 refine Zc mo Z0zx rfl ?_
 refine Z0<|Z2<|Zd (Z0e (s:=[.ints .u8 128 (p0)]) rfl fun b2 hb2=>Zd (Zr fun b3 hb3=>Z1<|Z0<|Z2<|Zd (Zr fun b5 hb5=>Z1<|Z0<|Z0<|Z2<|Z7 rfl<|Z1<|jH h fun k152 qk152 h=>Zh (G:=fun t m=>∃ (a151:List Int),k152 a151=some r∧Fit [(2,.pointer (some ⟨b3,0,none⟩)),(3,.pointer (some ⟨b5,0,none⟩))] (ck b5 211 [.ints .u64 80 (a151)]::(ck b3 211 [.ints .u64 80 ((List.replicate 80 0))]::(ck b2 192 [.ints .u8 128 (p0)] :: []))) t m) ?_ ?_)))
 ·refine Za<|Zo (fun n234 t m=>∃ (i231:Int) (a232:List Int),Z1d p0 k152 n234 i231 a232=some r∧Fit [(1,.pointer (some ⟨b2,0,none⟩)),(2,.pointer (some ⟨b3,0,none⟩)),(3,.pointer (some ⟨b5,0,none⟩)),(5,.int .i64 (i231))] (ck b5 211 [.ints .u64 80 (a232)]::(ck b3 211 [.ints .u64 80 ((List.replicate 80 0))]::(ck b2 192 [.ints .u8 128 (p0)] :: []))) t m) big ?_ ?_
  ·exact ⟨0,(List.replicate 80 0),h,⟨⟨rfl,rfl,rfl,rfl,trivial⟩,(.one .here (.one .here (.one .here .nil)))⟩⟩
  ·rintro n234 t m ⟨i231,a232,h,hF⟩
   refine Zg hF ?_
   clear hF
   rcases n234 with _ | n234
   · exact Z05 h
   have h:Z43 p0 k152 (Z1d p0 k152 n234) i231 a232=some r:=h
   unfold Z43 at h
   obtain ⟨k233,qk233⟩ : ∃ k,k=Z1d p0 k152 n234:=⟨_,rfl⟩
   try rw [← qk233] at h
   refine Z0<|Z2<|Z6 _ (Z9 rfl rfl rfl)<|Z1<|Z0<|Z07 h rfl (fun h=>?_) (fun h=>?_)
   ·refine Zk<|Z0<|jH h fun k266 qk266 h=>Zh (G:=fun t m=>∃ (a265:List Int),k266 a265=some r∧Fit [(1,.pointer (some ⟨b2,0,none⟩)),(2,.pointer (some ⟨b3,0,none⟩)),(3,.pointer (some ⟨b5,0,none⟩)),(5,.int .i64 (i231))] (ck b5 211 [.ints .u64 80 (a265)]::(ck b3 211 [.ints .u64 80 ((List.replicate 80 0))]::(ck b2 192 [.ints .u8 128 (p0)] :: []))) t m) ?_ ?_
    ·refine Za<|Z0<|Z2<|Z7 rfl<|Z7 rfl<|Z1<|Z0<|Z0<|Z2<|Z7 rfl<|Z6 _ (Z9 rfl rfl rfl)<|Z1<|Z07 h rfl (fun h=>?_) (fun h=>?_)
     ·exact Z0<|bH h fun z271 ez271 h=>oH h fun y272 ey272 h=>cH h fun c273 h=>bH h fun l274 el274 h=>Z2<|Z7 rfl<|Z6 _ (Z7c rfl .no .no .no (by simp) (by decide))<|Z7 rfl<|Z6 _ (iz ez271 (Z9 rfl rfl rfl))<|Z6 _ (Z08 rfl (fun w hw=>Zce ey272 ((Z1g (s:=[.ints .u8 128 (p0)]) (N:=128) (k:=.u8) (base:=0) (lo:=0) (hi:=128) (mz:=128) (.there (.there .here)) rfl (by decide)) w hw)))<|Z7 rfl<|Z6 _ (Z37 rfl rfl)<|Z6 _ (Z37 rfl rfl)<|Z6 _ (Z0v rfl rfl (Z09 c273))<|Zd (Z1e (q:=[.ints .u64 80 (l274)]) (base:=0) el274 rfl rfl rfl (Z01 c273) rfl .here<|Z1<|Zv _ rfl<|⟨l274,h,⟨⟨rfl,rfl,rfl,rfl,trivial⟩,(.one .here (.one .here (.one .here .nil)))⟩⟩)
     ·exact Zk<|bH h fun z276 ez276 h=>cH h fun c277 h=>bH h fun z278 ez278 h=>cH h fun c279 h=>bH h fun z280 ez280 h=>cH h fun c281 h=>bH h fun z282 ez282 h=>cH h fun c283 h=>bH h fun z284 ez284 h=>oH h fun y285 ey285 h=>bH h fun z286 ez286 h=>bH h fun z287 ez287 h=>bH h fun z288 ez288 h=>oH h fun y289 ey289 h=>bH h fun z290 ez290 h=>bH h fun z291 ez291 h=>bH h fun z292 ez292 h=>cH h fun c293 h=>bH h fun l294 el294 h=>Zu<|Z8 _ (Z0u rfl)<|Z8 _ (Z0u rfl)<|Z8 _ (iz ez276 (Z9 rfl rfl rfl))<|Z8 _ (Z0v rfl rfl (Z09 c277))<|Z8 _ (Z0u rfl)<|Z8 _ (iz ez278 (Z9 rfl rfl rfl))<|Z8 _ (Z0v rfl rfl (Z09 c279))<|Z8 _ (Z0u rfl)<|Z8 _ (iz ez280 (Z9 rfl rfl rfl))<|Z8 _ (Z0v rfl rfl (Z09 c281))<|Z8 _ (Z0u rfl)<|Z8 _ (iz ez282 (Z9 rfl rfl rfl))<|Z8 _ (Z0v rfl rfl (Z09 c283))<|Zq _ (iz ez284 (Z2e (base:=0) rfl .here rfl (Z01 c277)))<|Z8 _ (Z0g rfl (Zd0 ey285))<|Zq _ (iz ez286 (Z2e (base:=0) rfl .here rfl (Z01 c279)))<|Z8 _ (iz ez287 (Z9 rfl rfl rfl))<|Zq _ (iz ez288 (Z2e (base:=0) rfl .here rfl (Z01 c281)))<|Z8 _ (Z0g rfl (Zd0 ey289))<|Z8 _ (iz ez290 (Z9 rfl rfl rfl))<|Zq _ (iz ez291 (Z2e (base:=0) rfl .here rfl (Z01 c283)))<|Z8 _ (iz ez292 (Z9 rfl rfl rfl))<|Z8 _ (Z0v rfl rfl (Z09 c293))<|Z1b rfl (Z1e (q:=[.ints .u64 80 (l294)]) (base:=0) el294 rfl rfl rfl (Z01 c293) rfl .here<|Z03<|⟨l294,h,⟨⟨rfl,rfl,rfl,rfl,trivial⟩,(.one .here (.one .here (.one .here .nil)))⟩⟩)
    ·rintro t m ⟨a265,h,hF⟩
     refine Zg hF ?_
     clear hF
     subst qk266
     refine bH h fun z296 ez296 h=>Z2<|Z6 _ (iz ez296 (Z9 rfl rfl rfl))<|Z7 rfl<|Z1 ?_
     rw [qk233] at h
     exact ⟨n234,Nat.lt_succ_self _,z296,a265,h,⟨⟨rfl,rfl,rfl,rfl,trivial⟩,(.one .here (.one .here (.one .here .nil)))⟩⟩
   ·exact Zv _ rfl<|⟨a232,h,⟨⟨rfl,rfl,trivial⟩,(.one .here (.one .here (.one .here .nil)))⟩⟩
 ·rintro t m ⟨a151,h,hF⟩
  refine Zg hF ?_
  clear hF
  subst qk152
  refine Z0<|Z2<|Z6 _ (Z00 (p:=[.ints .u64 80 (a151)]) rfl .here rfl)<|Zd (Zp (q:=[.ints .u64 80 (a151)]) rfl rfl rfl rfl rfl (.there .here)<|Z1<|Zm ?_)
  revert h; refine Zw fun h=>?_
  subst h
  exact ⟨_,(.cons (.agg rfl (.there .here) rfl) .nil),rfl⟩
def Z9u (p0:Int) (p1:Int) (p2:Int) (p3:Int):Option (Int) :=
 opt (Z3c p0 p1) fun y3 =>
 opt (Z3c p0 p2) fun y4 =>
 bnd (Z4 .xor .u64 y3 y4) fun z5 =>
 opt (Z3c p0 p3) fun y6 =>
 bnd (Z4 .xor .u64 z5 y6) fun z7 =>
 some z7
theorem Zef {W:World} {r:Int} {p0:Int} {p1:Int} {p2:Int} {p3:Int} (h:Z9u p0 p1 p2 p3=some r)  :
    Calls Tryz.prog 202 [.int .u64 (p0),.int .i64 (p1),.int .i64 (p2),.int .i64 (p3)].toArray W (Z2s W (.int .u64 (r))):=by
 unfold Z9u at h
 refine Zc mo Z0zy rfl ?_
 refine Z0<|Z2<|Z7 rfl<|Z1<|Z0<|oH h fun y3 ey3 h=>oH h fun y4 ey4 h=>bH h fun z5 ez5 h=>oH h fun y6 ey6 h=>bH h fun z7 ez7 h=>Z2<|Z7 rfl<|Z7 rfl<|Z6 _ (Z0g rfl (Z2x ey3))<|Z7 rfl<|Z7 rfl<|Z6 _ (Z0g rfl (Z2x ey4))<|Z6 _ (iz ez5 (Z9 rfl rfl rfl))<|Z7 rfl<|Z7 rfl<|Z6 _ (Z0g rfl (Z2x ey6))<|Z6 _ (iz ez7 (Z9 rfl rfl rfl))<|Z7 rfl<|Z1<|Zm ?_
 revert h; refine Zw fun h=>?_
 subst h
 exact ⟨_,(.cons (.tmp rfl) .nil),rfl⟩
def Z63 (y6:(List Int)) (k133:(Int)→(Int)→(Int)→(Int)→(Int)→(Int)→(Int)→(Int)→OL) (k208:(Int)→(Int)→(Int)→(Int)→(Int)→(Int)→(Int)→(Int)→(Int)→OL) (i199:Int) (i200:Int) (i201:Int) (i202:Int) (i203:Int) (i204:Int) (i205:Int) (i206:Int) (i207:Int):OL :=
 br ((decide (i207<80))) (
 chk (inB i207 80) <|
 bnd (G_table.getD (i207).toNat 0) fun z214 =>
 opt (Z9u i203 14 18 41) fun y216 =>
 bnd (IntKind.wrap .u64 (i206+y216)) fun z217 =>
 bnd (Z4 .and .u64 i203 i204) fun z218 =>
 bnd (Z4 .xor .u64 18446744073709551615 i203) fun z219 =>
 bnd (Z4 .and .u64 z219 i205) fun z220 =>
 bnd (Z4 .xor .u64 z218 z220) fun z221 =>
 bnd (IntKind.wrap .u64 (z217+z221)) fun z222 =>
 bnd (IntKind.wrap .u64 (z222+z214)) fun z223 =>
 chk (inB i207 80) <|
 bnd (y6.getD (i207).toNat 0) fun z225 =>
 bnd (IntKind.wrap .u64 (z223+z225)) fun z226 =>
 opt (Z9u i199 28 34 39) fun y228 =>
 bnd (Z4 .and .u64 i199 i200) fun z229 =>
 bnd (Z4 .and .u64 i199 i201) fun z230 =>
 bnd (Z4 .xor .u64 z229 z230) fun z231 =>
 bnd (Z4 .and .u64 i200 i201) fun z232 =>
 bnd (Z4 .xor .u64 z231 z232) fun z233 =>
 bnd (IntKind.wrap .u64 (y228+z233)) fun z234 =>
 bnd (IntKind.wrap .u64 (i202+z226)) fun z236 =>
 bnd (IntKind.wrap .u64 (z226+z234)) fun z237 =>
 bnd (IntKind.wrap .i64 (i207+1)) fun z239 =>
 k208 z237 i199 i200 i201 z236 i203 i204 i205 z239
 ) (
 k133 i199 i200 i201 i202 i203 i204 i205 i206
 )
def Z2g (y6:(List Int)) (k133:(Int)→(Int)→(Int)→(Int)→(Int)→(Int)→(Int)→(Int)→OL):Nat→(Int)→(Int)→(Int)→(Int)→(Int)→(Int)→(Int)→(Int)→(Int)→OL
  | 0,_,_,_,_,_,_,_,_,_=>none
  | n+1,i199,i200,i201,i202,i203,i204,i205,i206,i207=>Z63 y6 k133 (Z2g y6 k133 n) i199 i200 i201 i202 i203 i204 i205 i206 i207
def Zam (z241:List Int) (k283:(List Int)→OL) (k309:(Int)→(List Int)→OL) (i307:Int) (a308:List Int):OL :=
 br ((decide (i307<8))) (
 chk (inB i307 8) <|
 bnd (z241.getD (i307).toNat 0) fun z315 =>
 chk (inB i307 8) <|
 bnd (a308.getD (i307).toNat 0) fun z318 =>
 bnd (IntKind.wrap .u64 (z318+z315)) fun z319 =>
 chk (inB i307 8) <|
 bnd (Z21 a308 (i307).toNat z319) fun l321 =>
 bnd (IntKind.wrap .i64 (i307+1)) fun z323 =>
 k309 z323 l321
 ) (
 k283 a308
 )
def Z4j (z241:List Int) (k283:(List Int)→OL):Nat→(Int)→(List Int)→OL
  | 0,_,_=>none
  | n+1,i307,a308=>Zam z241 k283 (Z4j z241 k283 n) i307 a308
def Z92 (p0:List Int) (p1:List Int):OL :=
 opt (Z64 p1) fun y6 =>
 bnd (p0.getD 0 0) fun z9 =>
 bnd (p0.getD 1 0) fun z10 =>
 bnd (p0.getD 2 0) fun z11 =>
 bnd (p0.getD 3 0) fun z12 =>
 bnd (p0.getD 4 0) fun z14 =>
 bnd (p0.getD 5 0) fun z15 =>
 bnd (p0.getD 6 0) fun z16 =>
 bnd (p0.getD 7 0) fun z17 =>
 jn (fun (i125:Int) (i126:Int) (i127:Int) (i128:Int) (i129:Int) (i130:Int) (i131:Int) (i132:Int)=>bnd (([i125,i126,i127,i128,i129,i130,i131,i132]:List Int)) fun z241 =>
 jn (fun (a282:List Int)=>some a282) fun k283=>Z4j z241 k283 big 0 p0) fun k133=>Z2g y6 k133 big z9 z10 z11 z12 z14 z15 z16 z17 0
theorem Zhp {W:World} {r:(List Int)} {p0:List Int} {p1:List Int} (h:Z92 p0 p1=some r) (hG:Globs W) :
    Calls Tryz.prog 159 [agg [.ints .u64 8 (p0)],agg [.ints .u8 128 (p1)]].toArray W (Z2s W (agg [.ints .u64 8 (r)])):=by
 unfold Z92 at h
 refine Zc mo Z0yx rfl ?_
 refine Z0<|Z2<|Zd (Z0e (s:=[.ints .u64 8 (p0)]) rfl fun b2 hb2=>Zd (Z0e (s:=[.ints .u8 128 (p1)]) rfl fun b3 hb3=>Zd (Zr fun b4 hb4=>Z1<|Z0<|oH h fun y6 ey6 h=>Z2<|Z6 _ (Z00 (p:=[.ints .u8 128 (p1)]) rfl (.there .here) rfl)<|Z6 _ (Z0g rfl (Zf4 ey6))<|Zd (Zr fun b7 hb7=>Zd (Zp (q:=[.ints .u64 80 (y6)]) rfl rfl rfl rfl rfl .here<|Z1<|Z0<|bH h fun z9 ez9 h=>bH h fun z10 ez10 h=>bH h fun z11 ez11 h=>bH h fun z12 ez12 h=>Zu<|Z8 _ (Z0v rfl rfl (by decide))<|Z8 _ (Z0v rfl rfl (by decide))<|Z8 _ (Z0v rfl rfl (by decide))<|Z8 _ (Z0v rfl rfl (by decide))<|Zq _ (iz ez9 (Z1a rfl (.there (.there (.there .here))) rfl))<|Z8 _ (Z0u rfl)<|Zq _ (iz ez10 (Z1a rfl (.there (.there (.there .here))) rfl))<|Z8 _ (Z0u rfl)<|Zq _ (iz ez11 (Z1a rfl (.there (.there (.there .here))) rfl))<|Z8 _ (Z0u rfl)<|Zq _ (iz ez12 (Z1a rfl (.there (.there (.there .here))) rfl))<|Z8 _ (Z0u rfl)<|Z03<|Z0<|bH h fun z14 ez14 h=>bH h fun z15 ez15 h=>bH h fun z16 ez16 h=>bH h fun z17 ez17 h=>Zu<|Z8 _ (Z0v rfl rfl (by decide))<|Z8 _ (Z0v rfl rfl (by decide))<|Z8 _ (Z0v rfl rfl (by decide))<|Z8 _ (Z0v rfl rfl (by decide))<|Zq _ (iz ez14 (Z1a rfl (.there (.there (.there .here))) rfl))<|Z8 _ (Z0u rfl)<|Zq _ (iz ez15 (Z1a rfl (.there (.there (.there .here))) rfl))<|Z8 _ (Z0u rfl)<|Zq _ (iz ez16 (Z1a rfl (.there (.there (.there .here))) rfl))<|Z8 _ (Z0u rfl)<|Zq _ (iz ez17 (Z1a rfl (.there (.there (.there .here))) rfl))<|Z8 _ (Z0u rfl)<|Z03<|Z0<|Z0<|Z2<|Z6 _ (Zti (o0:=0) (off:=0) rfl (hG.g4) (by simp) rfl)<|Z7 rfl<|Z1<|jH h fun k133 qk133 h=>Zh (G:=fun t m=>∃ (i125:Int) (i126:Int) (i127:Int) (i128:Int) (i129:Int) (i130:Int) (i131:Int) (i132:Int),k133 i125 i126 i127 i128 i129 i130 i131 i132=some r∧Fit [(2,.pointer (some ⟨b2,0,none⟩)),(4,.pointer (some ⟨b4,0,none⟩)),(6,.int .u64 (i125)),(7,.int .u64 (i126)),(8,.int .u64 (i127)),(9,.int .u64 (i128)),(10,.int .u64 (i129)),(11,.int .u64 (i130)),(12,.int .u64 (i131)),(13,.int .u64 (i132))] (ck b7 211 [.ints .u64 80 (y6)]::(ck b4 144 [.ints .u64 8 ((List.replicate 8 0))]::(ck b3 192 [.ints .u8 128 (p1)]::(ck b2 144 [.ints .u64 8 (p0)] :: [])))) t m) ?_ ?_)))))
 ·refine Za<|Zo (fun n209 t m=>∃ (i199:Int) (i200:Int) (i201:Int) (i202:Int) (i203:Int) (i204:Int) (i205:Int) (i206:Int) (i207:Int),Z2g y6 k133 n209 i199 i200 i201 i202 i203 i204 i205 i206 i207=some r∧Fit [(2,.pointer (some ⟨b2,0,none⟩)),(4,.pointer (some ⟨b4,0,none⟩)),(5,.pointer (some ⟨b7,0,none⟩)),(6,.int .u64 (i199)),(7,.int .u64 (i200)),(8,.int .u64 (i201)),(9,.int .u64 (i202)),(10,.int .u64 (i203)),(11,.int .u64 (i204)),(12,.int .u64 (i205)),(13,.int .u64 (i206)),(38,agg [.ints .u64 80 (G_table)]),(39,.int .i64 (i207))] (ck b7 211 [.ints .u64 80 (y6)]::(ck b4 144 [.ints .u64 8 ((List.replicate 8 0))]::(ck b3 192 [.ints .u8 128 (p1)]::(ck b2 144 [.ints .u64 8 (p0)] :: [])))) t m) big ?_ ?_
  ·exact ⟨z9,z10,z11,z12,z14,z15,z16,z17,0,h,⟨⟨rfl,rfl,rfl,rfl,rfl,rfl,rfl,rfl,rfl,rfl,rfl,rfl,rfl,trivial⟩,(.one .here (.one .here (.one .here (.one .here .nil))))⟩⟩
  ·rintro n209 t m ⟨i199,i200,i201,i202,i203,i204,i205,i206,i207,h,hF⟩
   refine Zg hF ?_
   clear hF
   rcases n209 with _ | n209
   · exact Z05 h
   have h:Z63 y6 k133 (Z2g y6 k133 n209) i199 i200 i201 i202 i203 i204 i205 i206 i207=some r:=h
   unfold Z63 at h
   obtain ⟨k208,qk208⟩ : ∃ k,k=Z2g y6 k133 n209:=⟨_,rfl⟩
   try rw [← qk208] at h
   refine Z0<|Z2<|Z6 _ (Z9 rfl rfl rfl)<|Z1<|Z0<|Z07 h rfl (fun h=>?_) (fun h=>?_)
   ·refine Zk<|Z0<|Za<|Z0<|cH h fun c213 h=>bH h fun z214 ez214 h=>Z2<|Z7 rfl<|Z6 _ (iz ez214 (Zi0 (len:=80) rfl rfl (Z09 c213)))<|Z7 rfl<|Z7 rfl<|Z1<|Z0<|oH h fun y216 ey216 h=>bH h fun z217 ez217 h=>bH h fun z218 ez218 h=>bH h fun z219 ez219 h=>bH h fun z220 ez220 h=>bH h fun z221 ez221 h=>bH h fun z222 ez222 h=>bH h fun z223 ez223 h=>cH h fun c224 h=>bH h fun z225 ez225 h=>bH h fun z226 ez226 h=>Zu<|Z8 _ (Z0u rfl)<|Z8 _ (Z0u rfl)<|Z8 _ (Z0g rfl (Zef ey216))<|Z8 _ (iz ez217 (Z9 rfl rfl rfl))<|Z8 _ (Z0u rfl)<|Z8 _ (Z0u rfl)<|Z8 _ (iz ez218 (Z9 rfl rfl rfl))<|Z8 _ (Z0u rfl)<|Z8 _ (iz ez219 (Zyr rfl rfl))<|Z8 _ (Z0u rfl)<|Z8 _ (iz ez220 (Z9 rfl rfl rfl))<|Z8 _ (iz ez221 (Z9 rfl rfl rfl))<|Z8 _ (iz ez222 (Z9 rfl rfl rfl))<|Z8 _ (Z0u rfl)<|Z8 _ (iz ez223 (Z9 rfl rfl rfl))<|Z8 _ (Z0u rfl)<|Z8 _ (Z0v rfl rfl (Z09 c224))<|Zq _ (iz ez225 (Z2e (base:=0) rfl .here rfl (Z01 c224)))<|Z8 _ (iz ez226 (Z9 rfl rfl rfl))<|Z8 _ (Z0u rfl)<|Z03<|Z0<|oH h fun y228 ey228 h=>bH h fun z229 ez229 h=>bH h fun z230 ez230 h=>bH h fun z231 ez231 h=>bH h fun z232 ez232 h=>bH h fun z233 ez233 h=>bH h fun z234 ez234 h=>Z2<|Z7 rfl<|Z6 _ (Z0g rfl (Zef ey228))<|Z7 rfl<|Z7 rfl<|Z6 _ (iz ez229 (Z9 rfl rfl rfl))<|Z7 rfl<|Z7 rfl<|Z6 _ (iz ez230 (Z9 rfl rfl rfl))<|Z6 _ (iz ez231 (Z9 rfl rfl rfl))<|Z7 rfl<|Z7 rfl<|Z6 _ (iz ez232 (Z9 rfl rfl rfl))<|Z6 _ (iz ez233 (Z9 rfl rfl rfl))<|Z6 _ (iz ez234 (Z9 rfl rfl rfl))<|Z7 rfl<|Z1<|bH h fun z236 ez236 h=>bH h fun z237 ez237 h=>Z2<|Z7 rfl<|Z7 rfl<|Z7 rfl<|Z7 rfl<|Z7 rfl<|Z6 _ (iz ez236 (Z9 rfl rfl rfl))<|Z7 rfl<|Z7 rfl<|Z7 rfl<|Z7 rfl<|Z7 rfl<|Z6 _ (iz ez237 (Z9 rfl rfl rfl))<|Z7 rfl<|Z7 rfl<|Z7 rfl<|Z7 rfl<|Z7 rfl<|Z7 rfl<|Z7 rfl<|Z7 rfl<|Z1<|bH h fun z239 ez239 h=>Z2<|Z6 _ (iz ez239 (Z9 rfl rfl rfl))<|Z7 rfl<|Z1 ?_
    rw [qk208] at h
    exact ⟨n209,Nat.lt_succ_self _,z237,i199,i200,i201,z236,i203,i204,i205,z239,h,⟨⟨rfl,rfl,rfl,rfl,rfl,rfl,rfl,rfl,rfl,rfl,rfl,rfl,rfl,trivial⟩,(.one .here (.one .here (.one .here (.one .here .nil))))⟩⟩
   ·exact Zv _ rfl<|⟨i199,i200,i201,i202,i203,i204,i205,i206,h,⟨⟨rfl,rfl,rfl,rfl,rfl,rfl,rfl,rfl,rfl,rfl,trivial⟩,(.one .here (.one .here (.one .here (.one .here .nil))))⟩⟩
 ·rintro t m ⟨i125,i126,i127,i128,i129,i130,i131,i132,h,hF⟩
  refine Zg hF ?_
  clear hF
  subst qk133
  refine Z0<|Z0<|bH h fun z241 ez241 h=>Z2<|Z7 rfl<|Z7 rfl<|Z7 rfl<|Z7 rfl<|Z7 rfl<|Z7 rfl<|Z7 rfl<|Z7 rfl<|Z6 _ (az (fun z=>agg [.ints .u64 8 z]) ez241 (Zgu (.one rfl rfl rfl (.one rfl rfl rfl (.one rfl rfl rfl (.one rfl rfl rfl (.one rfl rfl rfl (.one rfl rfl rfl (.one rfl rfl rfl (.one rfl rfl rfl BdR.nil))))))))))<|Z7 rfl<|Z1<|jH h fun k283 qk283 h=>Zh (G:=fun t m=>∃ (a282:List Int),k283 a282=some r∧Fit [(2,.pointer (some ⟨b2,0,none⟩)),(4,.pointer (some ⟨b4,0,none⟩))] (ck b7 211 [.ints .u64 80 (y6)]::(ck b4 144 [.ints .u64 8 ((List.replicate 8 0))]::(ck b3 192 [.ints .u8 128 (p1)]::(ck b2 144 [.ints .u64 8 (a282)] :: [])))) t m) ?_ ?_
  ·refine Za<|Zo (fun n310 t m=>∃ (i307:Int) (a308:List Int),Z4j z241 k283 n310 i307 a308=some r∧Fit [(2,.pointer (some ⟨b2,0,none⟩)),(4,.pointer (some ⟨b4,0,none⟩)),(97,agg [.ints .u64 8 (z241)]),(98,.int .i64 (i307))] (ck b7 211 [.ints .u64 80 (y6)]::(ck b4 144 [.ints .u64 8 ((List.replicate 8 0))]::(ck b3 192 [.ints .u8 128 (p1)]::(ck b2 144 [.ints .u64 8 (a308)] :: [])))) t m) big ?_ ?_
   ·exact ⟨0,p0,h,⟨⟨rfl,rfl,rfl,rfl,trivial⟩,(.one .here (.one .here (.one .here (.one .here .nil))))⟩⟩
   ·rintro n310 t m ⟨i307,a308,h,hF⟩
    refine Zg hF ?_
    clear hF
    rcases n310 with _ | n310
    · exact Z05 h
    have h:Zam z241 k283 (Z4j z241 k283 n310) i307 a308=some r:=h
    unfold Zam at h
    obtain ⟨k309,qk309⟩ : ∃ k,k=Z4j z241 k283 n310:=⟨_,rfl⟩
    try rw [← qk309] at h
    refine Z0<|Z2<|Z6 _ (Z9 rfl rfl rfl)<|Z1<|Z0<|Z07 h rfl (fun h=>?_) (fun h=>?_)
    ·refine Zk<|Z0<|Za<|Z0<|cH h fun c314 h=>bH h fun z315 ez315 h=>Z2<|Z7 rfl<|Z6 _ (iz ez315 (Zi0 (len:=8) rfl rfl (Z09 c314)))<|Z7 rfl<|Z7 rfl<|Z1<|cH h fun c317 h=>bH h fun z318 ez318 h=>bH h fun z319 ez319 h=>cH h fun c320 h=>bH h fun l321 el321 h=>Z2<|Z7 rfl<|Z6 _ (Z0v rfl rfl (Z09 c317))<|Z6 _ (iz ez318 (Z2e (base:=0) rfl (.there (.there (.there .here))) rfl (Z01 c317)))<|Z7 rfl<|Z6 _ (iz ez319 (Z9 rfl rfl rfl))<|Z6 _ (Z0v rfl rfl (Z09 c320))<|Zd (Z1e (q:=[.ints .u64 8 (l321)]) (base:=0) el321 rfl rfl rfl (Z01 c320) rfl (.there (.there (.there .here)))<|Z1<|bH h fun z323 ez323 h=>Z2<|Z6 _ (iz ez323 (Z9 rfl rfl rfl))<|Z7 rfl<|Z1 ?_)
     rw [qk309] at h
     exact ⟨n310,Nat.lt_succ_self _,z323,l321,h,⟨⟨rfl,rfl,rfl,rfl,trivial⟩,(.one .here (.one .here (.one .here (.one .here .nil))))⟩⟩
    ·exact Zv _ rfl<|⟨a308,h,⟨⟨rfl,rfl,trivial⟩,(.one .here (.one .here (.one .here (.one .here .nil))))⟩⟩
  ·rintro t m ⟨a282,h,hF⟩
   refine Zg hF ?_
   clear hF
   subst qk283
   refine Z0<|Z2<|Z6 _ (Z00 (p:=[.ints .u64 8 (a282)]) rfl (.there (.there (.there .here))) rfl)<|Zd (Zp (q:=[.ints .u64 8 (a282)]) rfl rfl rfl rfl rfl (.there .here)<|Z1<|Zm ?_)
   revert h; refine Zw fun h=>?_
   subst h
   exact ⟨_,(.cons (.agg rfl (.there .here) rfl) .nil),rfl⟩
end Go.Proofs.YtiflckckekjbnaaGreatDoor
