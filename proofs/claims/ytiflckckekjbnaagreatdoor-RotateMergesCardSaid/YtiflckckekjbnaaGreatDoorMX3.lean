/- Texts of a proof, one behind the other: S1 E23 SB L1 L2. -/
import Derived.Test.YtiflckckekjbnaaGreatDoorMX2
import Derived.Test.YtiflckckekjbnaaGreatDoorProg
namespace Go.Proofs.YtiflckckekjbnaaGreatDoor
open Go Go.Sx Go.RowKit
open List (replicate)
set_option linter.all false
set_option maxHeartbeats 400000
set_option maxRecDepth 100000
def Z0rt:LJ:=[jl 1 8 true (.global 2),jd 2 [.ints .u64 8 (replicate 8 0),.ints .u8 128 (replicate 128 0),.one (.int .i64 0),.one (.int .u64 0)] [(0,8,1)],jx 3 194 2,jm 0 3]
def d96:FnD:=⟨4,[.tmp 0],(.sq [jm 0 (.const (.pointer none))] (.sq Z0rt .ret))⟩
theorem ok96:okF Tryz.prog 96 d96=true:=by kernel_rfl
def Z0c8:IC:=(.ops [jm 9 1,jb 10 .add 9 (ci 1),jm 1 10])
def Z0e6:IC:=(.seq (.sq [jm 5 2,jb 6 .neq 5 (cu 0)] (.cond 6 .skip (.exit 0))) (.seq (.block 1 Z0c8) (.ops [jm 7 2,jb 8 .shr 7 (cu 1),jm 2 8])))
def Z0c7:IC:=(.loop Z0e6)
def d183:FnD:=⟨12,[.tmp 0],(.sq [jm 0 (ci 0)] (.sq [jm 1 (ci 0)] (.seq (.sq [jv 3 .u64 (ci 0),oj 4 (.un .xor 3),jm 2 4] (.block 0 Z0c7)) (.sq [jm 11 1,jm 0 11] .ret))))⟩
theorem Z0oi:okF Tryz.prog 183 d183=true:=by kernel_rfl
def Z0i3:LJ:=[jm 8 1,jb 9 .lss 8 (ci 0),jm 10 9,.lg true 10 17 none [.op ⟨some 11,(some (10,false)),.mv 1⟩,.op ⟨some 12,(some (10,false)),.mv 0⟩,.op ⟨some 13,(some (10,false)),.len 12⟩,.op ⟨some 14,(some (10,false)),.mv 5⟩,.op ⟨some 15,(some (10,false)),.bin .sub 13 14⟩,.op ⟨some 16,(some (10,false)),.bin .gtr 11 15⟩] 16]
def d203:FnD:=⟨24,[.tmp 4],(.sq [jm 4 (.const (.slice none 0 0))] (.sq [jc 6 183 [],jb 7 .quo 6 (ci 8),jm 5 7] (.seq (.sq Z0i3 (.cond 17 (.sq [jm 4 (.const (.slice none 0 0))] .ret) .skip)) (.sq [jm 18 0,jm 19 1,jm 20 1,jm 21 5,jb 22 .add 20 21,oj 23 (.sls 1 18 (some 19) (some 22) none),jm 4 23] .ret))))⟩
theorem Z0oy:okF Tryz.prog 203 d203=true:=by kernel_rfl
def Z0cs:IC:=(.sq [ji' 17 1 13 15,jl 18 1 false 17,jm 9 18] (.ops [jm 19 6,jb 20 .shl 19 (cu 8),jm 21 9,jv 22 .u64 21,jb 23 .or 20 22,jm 6 23]))
def Z0eg:IC:=(.sq [jb 16 .lss 15 14] (.seq (.cond 16 .skip (.exit 0)) (.seq (.block 1 Z0cs) (.ops [jb 24 .add 15 (ci 1),jm 15 24]))))
def Z0cr:IC:=(.loop Z0eg)
def d218:FnD:=⟨28,[.tmp 4,.tmp 5],(.sq [jm 4 (cu 0),jm 5 (.const (.bool false))] (.sq [jm 6 (cu 0)] (.sq [jm 10 0,jm 11 1,jc 12 203 [10,11],jm 7 12] (.seq (.sq [jm 13 7,jn' 14 13,jm 15 (ci 0)] (.block 0 Z0cr)) (.sq [jm 25 6,jm 26 7,oj 27 (.isn true 26),jm 4 25,jm 5 27] .ret)))))⟩
theorem Z0p9:okF Tryz.prog 218 d218=true:=by kernel_rfl
def Z0ic:LJ:=[jm 14 0,jm 15 6,jb 16 .shr 14 15,jm 17 0,jm 18 5,jv 19 .u64 18,jm 20 6,jb 21 .sub 19 20,jb 22 .shl 17 21,jb 23 .or 16 22,jm 4 23]
def d220:FnD:=⟨24,[.tmp 4],(.sq [jm 4 (cu 0)] (.sq [jc 7 183 [],jm 5 7] (.sq [jm 8 1,jv 9 .u64 8,jm 10 5,jb 11 .sub 10 (ci 1),jv 12 .u64 11,jb 13 .and 9 12,jm 6 13] (.sq Z0ic .ret))))⟩
theorem Z0pb:okF Tryz.prog 220 d220=true:=by kernel_rfl
def Z0ib:Sch:=(.P 0 (jm 9 0) (.P 1 (jm 10 1) (.P 2 (jc 11 220 [9,10]) (.P 3 (jm 12 0) (.P 4 (jm 13 2) (.P 5 (jc 14 220 [12,13]) (.P 6 (jb 15 .xor 11 14) (.P 7 (jm 16 0) (.P 8 (jm 17 3) (.P 9 (jb 18 .shr 16 17) (.P 10 (jb 19 .xor 15 18) (.P 11 (jm 8 19) .nil))))))))))))
def d219:FnD:=⟨20,[.tmp 8],(.sq [jm 8 (cu 0)] (.seq (.draw Z0ib []) .ret))⟩
theorem Z0pa:okF Tryz.prog 219 d219=true:=by kernel_rfl
def Z0i0:LJ:=[jm 11 4,oj 12 (.sla 128 1 1 none none none),jm 13 4,jb 14 .mul (ci 8) 13,jc 15 218 [12,14],jm 10 15,je 16 10 0,je 17 10 1,ji 18 80 1 3 11,js' 1 18 16]
def Z0i1:Sch:=(.P 0 (jm 19 4) (.P 1 (jm 20 4) (.P 2 (jb 21 .sub 20 (ci 2)) (.P 3 (ji 22 80 1 3 21) (.P 6 (jm 25 4) (.P 7 (jb 26 .sub 25 (ci 7)) (.P 8 (ji 27 80 1 3 26) (.P 11 (jm 30 4) (.P 12 (jb 31 .sub 30 (ci 15)) (.P 13 (ji 32 80 1 3 31) (.P 17 (jm 36 4) (.P 18 (jb 37 .sub 36 (ci 16)) (.P 19 (ji 38 80 1 3 37) (.Q 4 (jl 23 1 false 22) (.P 5 (jc 24 219 [23,(ci 19),(ci 61),(ci 6)]) (.Q 9 (jl 28 1 false 27) (.P 10 (jb 29 .add 24 28) (.Q 14 (jl 33 1 false 32) (.P 15 (jc 34 219 [33,(ci 1),(ci 8),(ci 7)]) (.P 16 (jb 35 .add 29 34) (.Q 20 (jl 39 1 false 38) (.P 21 (jb 40 .add 35 39) (.P 22 (ji 41 80 1 3 19) (.e 23 (jo' 1 41 40) .nil))))))))))))))))))))))))
def Z0cg:IC:=(.sq [jm 7 5,jm 4 7] (.seq (.sq [jm 8 4,jb 9 .lss 8 (ci 16)] (.cond 9 (.sq Z0i0 (.exit 1)) .skip)) (.draw Z0i1 [23])))
def Z0ea:IC:=(.sq [jb 6 .lss 5 (ci 80)] (.seq (.cond 6 .skip (.exit 0)) (.seq (.block 1 Z0cg) (.ops [jb 42 .add 5 (ci 1),jm 5 42]))))
def Z0cf:IC:=(.loop Z0ea)
def d201:FnD:=⟨44,[.cell 2 80 true],(.sq [jx 1 192 0,ja 2 211 [.ints .u64 80 (replicate 80 0)]] (.sq [ja 3 211 [.ints .u64 80 (replicate 80 0)]] (.seq (.sq [jm 5 (ci 0)] (.block 0 Z0cf)) (.sq [jl 43 80 true 3,js' 80 2 43] .ret))))⟩
theorem Z0ow:okF Tryz.prog 201 d201=true:=by kernel_rfl
def Z0i2:LJ:=[jm 9 0,jm 10 1,jc 11 220 [9,10],jm 12 0,jm 13 2,jc 14 220 [12,13],jb 15 .xor 11 14,jm 16 0,jm 17 3,jc 18 220 [16,17],jb 19 .xor 15 18,jm 8 19]
def d202:FnD:=⟨20,[.tmp 8],(.sq [jm 8 (cu 0)] (.sq Z0i2 .ret))⟩
theorem Z0ox:okF Tryz.prog 202 d202=true:=by kernel_rfl
def Z0gt:Sch:=(.P 0 (ji 22 8 1 2 (ci 0)) (.P 2 (ji 24 8 1 2 (ci 1)) (.P 4 (ji 26 8 1 2 (ci 2)) (.P 6 (ji 28 8 1 2 (ci 3)) (.Q 1 (jl 23 1 false 22) (.P 8 (jm 6 23) (.Q 3 (jl 25 1 false 24) (.P 9 (jm 7 25) (.Q 5 (jl 27 1 false 26) (.P 10 (jm 8 27) (.Q 7 (jl 29 1 false 28) (.P 11 (jm 9 29) .nil))))))))))))
def Z0gu:Sch:=(.P 0 (ji 30 8 1 2 (ci 4)) (.P 2 (ji 32 8 1 2 (ci 5)) (.P 4 (ji 34 8 1 2 (ci 6)) (.P 6 (ji 36 8 1 2 (ci 7)) (.Q 1 (jl 31 1 false 30) (.P 8 (jm 10 31) (.Q 3 (jl 33 1 false 32) (.P 9 (jm 11 33) (.Q 5 (jl 35 1 false 34) (.P 10 (jm 12 35) (.Q 7 (jl 37 1 false 36) (.P 11 (jm 13 37) .nil))))))))))))
def Z0gv:Sch:=(.P 0 (jm 43 13) (.P 1 (jm 44 10) (.P 2 (jc 45 202 [44,(ci 14),(ci 18),(ci 41)]) (.P 3 (jb 46 .add 43 45) (.P 4 (jm 47 10) (.P 5 (jm 48 11) (.P 6 (jb 49 .and 47 48) (.P 7 (jm 50 10) (.P 8 (oj 51 (.un .xor 50)) (.P 9 (jm 52 12) (.P 10 (jb 53 .and 51 52) (.P 11 (jb 54 .xor 49 53) (.P 12 (jb 55 .add 46 54) (.P 13 (jm 56 15) (.P 14 (jb 57 .add 55 56) (.P 15 (jm 58 14) (.P 16 (ji 59 80 1 5 58) (.Q 17 (jl 60 1 false 59) (.P 18 (jb 61 .add 57 60) (.P 19 (jm 16 61) .nil))))))))))))))))))))
def Z0gw:LJ:=[jm 62 6,jc 63 202 [62,(ci 28),(ci 34),(ci 39)],jm 64 6,jm 65 7,jb 66 .and 64 65,jm 67 6,jm 68 8,jb 69 .and 67 68,jb 70 .xor 66 69,jm 71 7,jm 72 8,jb 73 .and 71 72,jb 74 .xor 70 73,jb 75 .add 63 74,jm 17 75]
def Z0gx:LJ:=[jm 76 12,jm 77 11,jm 78 10,jm 79 9,jm 80 16,jb 81 .add 79 80,jm 82 8,jm 83 7,jm 84 6,jm 85 16,jm 86 17,jb 87 .add 85 86,jm 13 76,jm 12 77,jm 11 78,jm 10 81,jm 9 82,jm 8 83,jm 7 84,jm 6 87]
def Z0b8:IC:=(.sq [jm 41 39,oj 42 (.idx 80 1 false 38 39),jm 14 41,jm 15 42] (.seq (.draw Z0gv []) (.sq Z0gw (.ops Z0gx))))
def Z0do:IC:=(.sq [jb 40 .lss 39 (ci 80)] (.seq (.cond 40 .skip (.exit 0)) (.seq (.block 1 Z0b8) (.ops [jb 88 .add 39 (ci 1),jm 39 88]))))
def Z0b7:IC:=(.loop Z0do)
def Z076:LJ:=[jm 89 6,jm 90 7,jm 91 8,jm 92 9,jm 93 10,jm 94 11,jm 95 12,jm 96 13,jd 97 [.ints .u64 8 (replicate 8 0)] [(0,1,89),(1,1,90),(2,1,91),(3,1,92),(4,1,93),(5,1,94),(6,1,95),(7,1,96)],jm 98 (ci 0)]
def Z0ba:IC:=(.sq [jm 100 98,oj 101 (.idx 8 1 false 97 98),jm 18 100,jm 19 101] (.ops [jm 102 18,ji 103 8 1 2 102,jl 104 1 false 103,jm 105 19,jb 106 .add 104 105,ji 107 8 1 2 102,js' 1 107 106]))
def Z0dp:IC:=(.sq [jb 99 .lss 98 (ci 8)] (.seq (.cond 99 .skip (.exit 2)) (.seq (.block 3 Z0ba) (.ops [jb 108 .add 98 (ci 1),jm 98 108]))))
def Z0b9:IC:=(.loop Z0dp)
def d159:FnD:=⟨110,[.cell 4 8 true],(.sq [jx 2 144 0,jx 3 192 1,ja 4 144 [.ints .u64 8 (replicate 8 0)]] (.sq [jl 20 128 true 3,jc 21 201 [20],ja 5 211 [.ints .u64 80 (replicate 80 0)],js' 80 5 21] (.seq (.draw Z0gt []) (.seq (.draw Z0gu []) (.seq (.sq [jl 38 80 true (.global 4),jm 39 (ci 0)] (.block 0 Z0b7)) (.seq (.sq Z076 (.block 2 Z0b9)) (.sq [jl 109 8 true 2,js' 8 4 109] .ret)))))))⟩
theorem Z0nw:okF Tryz.prog 159 d159=true:=by kernel_rfl
def Z0ru:LJ:=[jm 5 0,jz 6 5,jf 7 137 6,jl 8 1 false 7,jm 9 1,jn' 10 9,jv 11 .u64 10,jb 12 .add 8 11,jz 13 5,jf 14 137 13,js' 1 14 12]
def Z0rv:Sch:=(.P 0 (jm 18 0) (.P 1 (jz 19 18) (.P 2 (jf 20 8 19) (.P 3 (jm 21 0) (.P 4 (jz 22 21) (.P 5 (jf 23 136 22) (.P 8 (jm 26 1) (.Q 6 (jl 24 1 false 23) (.P 7 (oj 25 (.sla 128 1 20 (some 24) none none)) (.e 9 (oi 27 (.cpy 1 25 26)) (.P 10 (jm 4 27) .nil)))))))))))
def Z0rw:Sch:=(.P 0 (jm 44 0) (.P 1 (jm 45 0) (.P 2 (jz 46 45) (.P 3 (jf 47 0 46) (.P 5 (jm 49 0) (.P 6 (jz 50 49) (.P 7 (jf 51 8 50) (.Q 4 (jl 48 8 true 47) (.Q 8 (jl 52 128 true 51) (.P 9 (jc 53 159 [48,52]) (.P 10 (jz 54 44) (.P 11 (jf 55 0 54) (.e 12 (jo' 8 55 53) .nil)))))))))))))
def Z0lm:IC:=(.seq (.draw Z0rv [9]) (.sq [jm 28 1,jm 29 4,oj 30 (.sls 1 28 (some 29) none none),jm 1 30] (.sq [jm 31 0,jz 32 31,jf 33 136 32,jl 34 1 false 33,jm 35 4,jb 36 .add 34 35,jz 37 31,jf 38 136 37,js' 1 38 36] (.sq [jm 39 0,jz 40 39,jf 41 136 40,jl 42 1 false 41,jb 43 .eql 42 (ci 128)] (.cond 43 (.seq (.draw Z0rw [12]) (.ops [jm 56 0,jz 57 56,jf 58 136 57,js' 1 58 (ci 0)])) .skip)))))
def Z0me:IC:=(.seq (.sq [jm 15 1,jn' 16 15,jb 17 .gtr 16 (ci 0)] (.cond 17 .skip (.exit 0))) (.block 1 Z0lm))
def Z0ll:IC:=(.loop Z0me)
def d97:FnD:=⟨59,[],(.sq Z0ru (.block 0 Z0ll))⟩
theorem ok97:okF Tryz.prog 97 d97=true:=by kernel_rfl
def Z0ab:IC:=(.sq [jm 15 3,jm 16 4,jm 17 0,jv 18 .u8 17,ji' 19 1 15 16,js' 1 19 18] (.ops [jm 20 0,jb 21 .shr 20 (cu 8),jm 0 21]))
def Z0d8:IC:=(.seq (.sq [jm 11 4,jb 12 .geq 11 (ci 0)] (.cond 12 .skip (.exit 0))) (.seq (.block 1 Z0ab) (.ops [jm 13 4,jb 14 .sub 13 (ci 1),jm 4 14])))
def Z0aa:IC:=(.loop Z0d8)
def d118:FnD:=⟨23,[.tmp 2],(.sq [jm 2 (.const (.slice none 0 0))] (.sq [jc 5 183 [],jb 6 .quo 5 (ci 8),oj 7 (.mks 5 1 [.one (.int .u8 0)] 6 6),jm 3 7] (.seq (.sq [jm 8 3,jn' 9 8,jb 10 .sub 9 (ci 1),jm 4 10] (.block 0 Z0aa)) (.sq [jm 22 3,jm 2 22] .ret))))⟩
theorem Z0mu:okF Tryz.prog 118 d118=true:=by kernel_rfl
def Z0h0:LJ:=[jm 4 0,jz 5 4,jl 6 138 true 5,ja 3 194 [.ints .u64 8 (replicate 8 0),.ints .u8 128 (replicate 128 0),.one (.int .i64 0),.one (.int .u64 0)],js' 138 3 6]
def d163:FnD:=⟨7,[.tmp 2],(.sq [jm 2 (.const (.pointer none))] (.sq Z0h0 (.sq [jm 2 3] .ret)))⟩
theorem Z0o0:okF Tryz.prog 163 d163=true:=by kernel_rfl
def Z0h1:LJ:=[jm 5 0,jb 6 .add 5 (cu 17),jb 7 .rem 6 (cu 128),jv 8 .i64 7,jb 9 .sub (ci 128) 8,jb 10 .rem 9 (ci 128),jm 3 10]
def Z0h2:LJ:=[jm 14 4,oj 15 (.bs 5 1 1 [.one (.int .u8 0)] [(0,1,(c8 128))]),oj 16 (.app 5 1 1 [.one (.int .u8 0)] 14 15),jm 4 16]
def d164:FnD:=⟨30,[.tmp 2],(.sq [jm 2 (.const (.slice none 0 0))] (.sq Z0h1 (.sq [jm 11 3,jb 12 .add (ci 17) 11,oj 13 (.mks 5 1 [.one (.int .u8 0)] (ci 0) 12),jm 4 13] (.sq Z0h2 (.sq [jm 17 4,jm 18 3,oj 19 (.apz 5 1 1 [.one (.int .u8 0)] 17 18),jm 4 19] (.sq [jm 20 4,jm 21 0,jb 22 .shr 21 (cu 61),jc 23 118 [22],oj 24 (.app 5 1 1 [.one (.int .u8 0)] 20 23),jm 4 24] (.sq [jm 25 4,jm 26 0,jb 27 .shl 26 (cu 3),jc 28 118 [27],oj 29 (.app 5 1 1 [.one (.int .u8 0)] 25 28),jm 2 29] .ret)))))))⟩
theorem Z0o1:okF Tryz.prog 164 d164=true:=by kernel_rfl
def Z0ry:Sch:=(.P 0 (jm 24 5) (.P 1 (jb 25 .mul (ci 8) 24) (.P 2 (oj 26 (.sla 64 1 4 (some 25) none none)) (.P 3 (jm 27 6) (.e 4 (oi 28 (.call 118 [27])) (.e 5 (oi 29 (.cpy 1 26 28)) .nil))))))
def Z0lq:IC:=(.sq [jm 22 20,oj 23 (.idx 8 1 false 19 20),jm 5 22,jm 6 23] (.draw Z0ry [5]))
def Z0mg:IC:=(.sq [jb 21 .lss 20 (ci 8)] (.seq (.cond 21 .skip (.exit 0)) (.seq (.block 1 Z0lq) (.ops [jb 30 .add 20 (ci 1),jm 20 30]))))
def Z0lp:IC:=(.loop Z0mg)
def d99:FnD:=⟨32,[.cell 2 64 true],(.sq [ja 2 94 [.ints .u8 64 (replicate 64 0)]] (.sq [jm 7 0,jc 8 163 [7],jm 3 8] (.sq [jm 9 3,jm 10 0,jz 11 10,jf 12 137 11,jl 13 1 false 12,jc 14 164 [13],jc 15 97 [9,14]] (.sq [ja 4 94 [.ints .u8 64 (replicate 64 0)]] (.seq (.sq [jm 16 3,jz 17 16,jf 18 0 17,jl 19 8 true 18,jm 20 (ci 0)] (.block 0 Z0lp)) (.sq [jl 31 64 true 4,js' 64 2 31] .ret))))))⟩
theorem ok99:okF Tryz.prog 99 d99=true:=by kernel_rfl
def Z0gq:LJ:=[ji 3 5 1 1 (ci 0),jl 4 1 false 3,jb 5 .and 4 (cu 2251799813685247),ji 6 5 1 1 (ci 4),jl 7 1 false 6,jb 8 .shr 7 (cu 51),jb 9 .mul 8 (cu 19),jb 10 .add 5 9,ji 11 5 1 1 (ci 1),jl 12 1 false 11,jb 13 .and 12 (cu 2251799813685247),ji 14 5 1 1 (ci 0),jl 15 1 false 14,jb 16 .shr 15 (cu 51),jb 17 .add 13 16,ji 18 5 1 1 (ci 2),jl 19 1 false 18,jb 20 .and 19 (cu 2251799813685247),ji 21 5 1 1 (ci 1),jl 22 1 false 21,jb 23 .shr 22 (cu 51),jb 24 .add 20 23,ji 25 5 1 1 (ci 3),jl 26 1 false 25,jb 27 .and 26 (cu 2251799813685247),ji 28 5 1 1 (ci 2),jl 29 1 false 28,jb 30 .shr 29 (cu 51),jb 31 .add 27 30,ji 32 5 1 1 (ci 4),jl 33 1 false 32,jb 34 .and 33 (cu 2251799813685247),ji 35 5 1 1 (ci 3),jl 36 1 false 35,jb 37 .shr 36 (cu 51),jb 38 .add 34 37,jd 39 [Z5] [(0,1,10),(1,1,17),(2,1,24),(3,1,31),(4,1,38)],js' 5 2 39]
def d156:FnD:=⟨40,[.cell 2 5 true],(.sq [jx 1 80 0,ja 2 80 [Z5]] (.sq Z0gq .ret))⟩
theorem Z0nu:okF Tryz.prog 156 d156=true:=by kernel_rfl
def Z0b4:IC:=(.sq [ji' 18 1 14 16,jl 19 1 false 18,jm 5 19] (.ops [jm 20 5,jm 21 3,jb 22 .add 20 21,jb 23 .shr 22 (cu 51),jm 3 23]))
def Z0dm:IC:=(.sq [jb 17 .lss 16 15] (.seq (.cond 17 .skip (.exit 0)) (.seq (.block 1 Z0b4) (.ops [jb 24 .add 16 (ci 1),jm 16 24]))))
def Z0b3:IC:=(.loop Z0dm)
def Z0gp:LJ:=[ji 25 5 1 1 (ci 0),jl 26 1 false 25,jm 27 3,jb 28 .mul (cu 19) 27,jb 29 .add 26 28,ji 30 5 1 1 (ci 0),js' 1 30 29]
def Z075:Sch:=(.P 0 (jm 34 6) (.P 1 (jb 35 .add 34 (ci 1)) (.P 2 (ji 36 5 1 1 35) (.P 4 (jm 38 6) (.P 5 (ji 39 5 1 1 38) (.Q 3 (jl 37 1 false 36) (.Q 6 (jl 40 1 false 39) (.P 7 (jb 41 .shr 40 (cu 51)) (.P 8 (jb 42 .add 37 41) (.P 9 (ji 43 5 1 1 35) (.e 10 (jo' 1 43 42) .nil)))))))))))
def Z0b6:IC:=(.sq [jm 33 31,jm 6 33] (.seq (.draw Z075 [10]) (.ops [jm 44 6,ji 45 5 1 1 44,jl 46 1 false 45,jb 47 .and 46 (cu 2251799813685247),ji 48 5 1 1 44,js' 1 48 47])))
def Z0dn:IC:=(.sq [jb 32 .lss 31 (ci 4)] (.seq (.cond 32 .skip (.exit 2)) (.seq (.block 3 Z0b6) (.ops [jb 49 .add 31 (ci 1),jm 31 49]))))
def Z0b5:IC:=(.loop Z0dn)
def d155:FnD:=⟨55,[.cell 2 5 true],(.sq [jx 1 80 0,ja 2 80 [Z5]] (.sq [jl 7 5 true 1,jc 8 156 [7],jc 9 156 [8],js' 5 1 9] (.sq [ji 10 5 1 1 (ci 0),jl 11 1 false 10,jb 12 .add 11 (cu 19),jb 13 .shr 12 (cu 51),jm 3 13] (.seq (.sq [oj 14 (.sla 5 1 1 (some (ci 1)) none none),jn' 15 14,jm 16 (ci 0)] (.block 0 Z0b3)) (.sq Z0gp (.seq (.sq [jm 31 (ci 0)] (.block 2 Z0b5)) (.sq [ji 50 5 1 1 (ci 4),jl 51 1 false 50,jb 52 .and 51 (cu 2251799813685247),ji 53 5 1 1 (ci 4),js' 1 53 52] (.sq [jl 54 5 true 1,js' 5 2 54] .ret))))))))⟩
theorem Z0nt:okF Tryz.prog 155 d155=true:=by kernel_rfl
def Z07d:LJ:=[jm 40 7,jm 41 9,jb 42 .mul 40 41,jm 43 13,jb 44 .add 42 43,jm 45 12,jb 46 .shr 45 (cu 32),jb 47 .add 44 46,jm 4 47]
def d200:FnD:=⟨51,[.tmp 4,.tmp 5],(.sq [jm 4 (cu 0),jm 5 (cu 0)] (.sq [jm 14 0,jb 15 .and 14 (cu 4294967295),jm 6 15] (.sq [jm 16 0,jb 17 .shr 16 (cu 32),jm 7 17] (.sq [jm 18 1,jb 19 .and 18 (cu 4294967295),jm 8 19] (.sq [jm 20 1,jb 21 .shr 20 (cu 32),jm 9 21] (.sq [jm 22 6,jm 23 8,jb 24 .mul 22 23,jm 10 24] (.sq [jm 25 7,jm 26 8,jb 27 .mul 25 26,jm 28 10,jb 29 .shr 28 (cu 32),jb 30 .add 27 29,jm 11 30] (.sq [jm 31 11,jb 32 .and 31 (cu 4294967295),jm 12 32] (.sq [jm 33 11,jb 34 .shr 33 (cu 32),jm 13 34] (.sq [jm 35 12,jm 36 6,jm 37 9,jb 38 .mul 36 37,jb 39 .add 35 38,jm 12 39] (.sq Z07d (.sq [jm 48 0,jm 49 1,jb 50 .mul 48 49,jm 5 50] .ret))))))))))))⟩
theorem Z0ov:okF Tryz.prog 200 d200=true:=by kernel_rfl
def Z0gr:LJ:=[jm 16 0,jm 17 0,jz 18 17,jf 19 1 18,jl 20 1 false 19,jm 21 7,oj 22 (.xcall 158 [20,21,(cu 0)]),jm 15 22,je 23 15 0,je 24 15 1,jz 25 16,jf 26 1 25,js' 1 26 23,jm 8 24]
def Z0gs:LJ:=[jm 28 0,jm 29 0,jz 30 29,jf 31 0 30,jl 32 1 false 31,jm 33 6,jm 34 8,oj 35 (.xcall 158 [32,33,34]),jm 27 35,je 36 27 0,je 37 27 1,jz 38 28,jf 39 0 38,js' 1 39 36]
def d157:FnD:=⟨40,[],(.sq [jm 10 1,jm 11 2,jc 12 200 [10,11],jm 9 12,je 13 9 0,je 14 9 1,jm 6 13,jm 7 14] (.sq [jm 8 (cu 0)] (.sq Z0gr (.ops Z0gs))))⟩
theorem Z0nv:okF Tryz.prog 157 d157=true:=by kernel_rfl
def Z0rp:Sch:=(.Q 0 (jl 19 5 true 2) (.P 1 (jc 20 156 [19]) (.Q 2 (jl 21 5 true 3) (.P 3 (jc 22 156 [21]) (.e 4 (jo' 5 2 20) (.e 5 (jo' 5 3 22) .nil))))))
def Z0il:LJ:=[jm 44 6,jm 45 8,jb 46 .add 44 45,jb 47 .sub 46 (ci 5),ji 48 5 2 5 47,jm 49 7,jm 50 9,jb 51 .mul (cu 19) 50,jc 52 157 [48,49,51]]
def Z0lg:IC:=(.sq [jm 31 29,oj 32 (.idx 5 1 false 28 29),jm 8 31,jm 9 32] (.sq [jm 33 6,jm 34 8,jb 35 .add 33 34,jb 36 .lss 35 (ci 5)] (.cond 36 (.ops [jm 37 6,jm 38 8,jb 39 .add 37 38,ji 40 5 2 5 39,jm 41 7,jm 42 9,jc 43 157 [40,41,42]]) (.ops Z0il))))
def Z0mb:IC:=(.sq [jb 30 .lss 29 (ci 5)] (.seq (.cond 30 .skip (.exit 2)) (.seq (.block 3 Z0lg) (.ops [jb 53 .add 29 (ci 1),jm 29 53]))))
def Z0lf:IC:=(.loop Z0mb)
def Z0le:IC:=(.sq [jm 26 24,oj 27 (.idx 5 1 false 23 24),jm 6 26,jm 7 27] (.sq [jl 28 5 true 3,jm 29 (ci 0)] (.block 2 Z0lf)))
def Z0ma:IC:=(.sq [jb 25 .lss 24 (ci 5)] (.seq (.cond 25 .skip (.exit 0)) (.seq (.block 1 Z0le) (.ops [jb 54 .add 24 (ci 1),jm 24 54]))))
def Z0ld:IC:=(.loop Z0ma)
def Z0im:LJ:=[jf 61 1 13,jl 62 1 false 61,jm 63 11,oj 64 (.xcall 158 [62,63,(cu 0)]),jm 60 64,je 65 60 0,je 66 60 1,jm 14 65,jm 15 66]
def Z0in:LJ:=[jf 71 0 13,jl 72 1 false 71,jm 73 15,jb 74 .add 72 73,jb 75 .shl 74 (cu 13),jm 76 14,jb 77 .shr 76 (cu 51),jb 78 .or 75 77,jm 11 78]
def Z0li:IC:=(.sq [jm 58 56,oj 59 (.idx 5 2 true 55 56),ja 13 187 [.ints .u64 2 (replicate 2 0)],jm 12 58,js' 2 13 59] (.sq Z0im (.sq [jm 67 12,jm 68 14,jb 69 .and 68 (cu 2251799813685247),ji 70 5 1 10 67,js' 1 70 69] (.ops Z0in))))
def Z0mc:IC:=(.sq [jb 57 .lss 56 (ci 5)] (.seq (.cond 57 .skip (.exit 4)) (.seq (.block 5 Z0li) (.ops [jb 79 .add 56 (ci 1),jm 56 79]))))
def Z0lh:IC:=(.loop Z0mc)
def Z0io:LJ:=[jf 83 1 16,jl 84 1 false 83,ji 85 5 1 10 (ci 0),jl 86 1 false 85,oj 87 (.xcall 158 [84,86,(cu 0)]),jm 82 87,je 88 82 0,je 89 82 1,jm 17 88,jm 18 89]
def Z0ip:LJ:=[ji 93 5 1 10 (ci 1),jl 94 1 false 93,jf 95 0 16,jl 96 1 false 95,jm 97 18,jb 98 .add 96 97,jb 99 .shl 98 (cu 13),jm 100 17,jb 101 .shr 100 (cu 51),jb 102 .or 99 101,jb 103 .add 94 102,ji 104 5 1 10 (ci 1),js' 1 104 103]
def d92:FnD:=⟨107,[.cell 4 5 true],(.sq [jx 2 80 0,jx 3 80 1,ja 4 80 [Z5]] (.seq (.draw Z0rp [4,5]) (.sq [ja 5 188 [Z10]] (.seq (.sq [jl 23 5 true 2,jm 24 (ci 0)] (.block 0 Z0ld)) (.sq [ja 10 80 [Z5]] (.sq [jm 11 (cu 0)] (.seq (.sq [jl 55 10 true 5,jm 56 (ci 0)] (.block 4 Z0lh)) (.sq [ja 16 187 [.ints .u64 2 (replicate 2 0)]] (.sq [jm 80 11,jc 81 157 [16,80,(cu 19)]] (.sq Z0io (.sq [jm 90 17,jb 91 .and 90 (cu 2251799813685247),ji 92 5 1 10 (ci 0),js' 1 92 91] (.sq Z0ip (.sq [jl 105 5 true 10,jc 106 155 [105],js' 5 4 106] .ret)))))))))))))⟩
theorem ok92:okF Tryz.prog 92 d92=true:=by kernel_rfl
def d123:FnD:=⟨6,[.cell 2 5 true],(.sq [jx 1 80 0,ja 2 80 [Z5]] (.sq [jl 3 5 true 1,jl 4 5 true 1,jc 5 92 [3,4],js' 5 2 5] .ret))⟩
theorem Z0mx:okF Tryz.prog 123 d123=true:=by kernel_rfl
def d188:FnD:=⟨6,[.cell 2 5 true],(.sq [ja 2 80 [Z5]] (.sq [jm 3 0,jd 4 [Z5] [(0,1,3)],jc 5 155 [4],js' 5 2 5] .ret))⟩
theorem Z0ok:okF Tryz.prog 188 d188=true:=by kernel_rfl
def Z0go:LJ:=[jm 14 6,jb 15 .quo 14 (ci 8),ji 16 32 1 3 15,jl 17 1 false 16,jm 18 6,jb 19 .rem 18 (ci 8),jb 20 .shr 17 19,jb 21 .and 20 (c8 1),jb 22 .eql 21 (c8 1)]
def Z0b0:IC:=(.sq [jl 12 5 true 5,jc 13 123 [12],js' 5 5 13] (.sq Z0go (.cond 22 (.ops [jl 23 5 true 5,jl 24 5 true 2,jc 25 92 [23,24],js' 5 5 25]) .skip)))
def Z0dk:IC:=(.seq (.sq [jm 8 6,jb 9 .geq 8 (ci 0)] (.cond 9 .skip (.exit 0))) (.seq (.block 1 Z0b0) (.ops [jm 10 6,jb 11 .sub 10 (ci 1),jm 6 11])))
def Z0az:IC:=(.loop Z0dk)
def d153:FnD:=⟨27,[.cell 4 5 true],(.sq [jx 2 80 0,jx 3 22 1,ja 4 80 [Z5]] (.sq [jc 7 188 [(cu 1)],ja 5 80 [Z5],js' 5 5 7] (.seq (.sq [jm 6 (ci 255)] (.block 0 Z0az)) (.sq [jl 26 5 true 5,js' 5 4 26] .ret))))⟩
theorem Z0nr:okF Tryz.prog 153 d153=true:=by kernel_rfl
def Z0b2:IC:=(.sq [jm 9 7,jm 6 9] (.ops [jm 10 6,ji 11 32 1 5 10,js' 1 11 (c8 255)]))
def Z0dl:IC:=(.sq [jb 8 .lss 7 (ci 32)] (.seq (.cond 8 .skip (.exit 0)) (.seq (.block 1 Z0b2) (.ops [jb 12 .add 7 (ci 1),jm 7 12]))))
def Z0b1:IC:=(.loop Z0dl)
def d154:FnD:=⟨18,[.cell 4 32 true],(.sq [ja 4 22 [.ints .u8 32 (replicate 32 0)]] (.sq [ja 5 22 [.ints .u8 32 (replicate 32 0)]] (.seq (.sq [jm 7 (ci 0)] (.block 0 Z0b1)) (.sq [jm 13 0,jm 14 1,ji 15 32 1 5 (ci 0),js' 1 15 13,ji 16 32 1 5 (ci 31),js' 1 16 14] (.sq [jl 17 32 true 5,js' 32 4 17] .ret)))))⟩
theorem Z0ns:okF Tryz.prog 154 d154=true:=by kernel_rfl
def Z0rl:Sch:=(.P 1 (jc 4 154 [(c8 235),(c8 127)]) (.Q 0 (jl 3 5 true 1) (.P 2 (jc 5 153 [3,4]) (.e 3 (jo' 5 2 5) .nil))))
def d90:FnD:=⟨6,[.cell 2 5 true],(.sq [jx 1 80 0,ja 2 80 [Z5]] (.seq (.draw Z0rl [3]) .ret))⟩
theorem ok90:okF Tryz.prog 90 d90=true:=by kernel_rfl
def Z0rm:LJ:=[jm 13 4,jb 14 .mul (ci 8) 13,jb 15 .quo 14 (ci 51),jm 16 4,jb 17 .mul (ci 8) 16,jb 18 .rem 17 (ci 51),jm 5 15,jm 6 18]
def Z0rn:LJ:=[jm 24 6,jb 25 .gtr 24 (ci 43),jm 26 25,.lg false 26 29 none [.op ⟨some 27,(some (26,true)),.mv 5⟩,.op ⟨some 28,(some (26,true)),.bin .lss 27 (ci 4)⟩] 28]
def Z0ro:LJ:=[jm 30 7,jm 31 5,jb 32 .add 31 (ci 1),ji 33 5 1 1 32,jl 34 1 false 33,jm 35 6,jb 36 .sub (ci 51) 35,jb 37 .shl 34 36,jb 38 .or 30 37,jm 7 38]
def Z0lc:IC:=(.sq [jm 12 10,jm 4 12] (.sq Z0rm (.sq [jm 19 5,ji 20 5 1 1 19,jl 21 1 false 20,jm 22 6,jb 23 .shr 21 22,jm 7 23] (.seq (.sq Z0rn (.cond 29 (.ops Z0ro) .skip)) (.ops [jm 39 4,jm 40 7,jv 41 .u8 40,ji 42 32 1 3 39,js' 1 42 41])))))
def Z0m9:IC:=(.sq [jb 11 .lss 10 (ci 32)] (.seq (.cond 11 .skip (.exit 0)) (.seq (.block 1 Z0lc) (.ops [jb 43 .add 10 (ci 1),jm 10 43]))))
def Z0lb:IC:=(.loop Z0m9)
def d91:FnD:=⟨45,[.cell 2 32 true],(.sq [jx 1 80 0,ja 2 22 [.ints .u8 32 (replicate 32 0)]] (.sq [jl 8 5 true 1,jc 9 155 [8],js' 5 1 9] (.sq [ja 3 22 [.ints .u8 32 (replicate 32 0)]] (.seq (.sq [jm 10 (ci 0)] (.block 0 Z0lb)) (.sq [jl 44 32 true 3,js' 32 2 44] .ret)))))⟩
theorem ok91:okF Tryz.prog 91 d91=true:=by kernel_rfl
def d93:FnD:=⟨8,[.tmp 2],(.sq [jx 1 80 0,jm 2 (.const (.bool false))] (.sq [jl 3 5 true 1,jc 4 155 [3],oj 5 (.idx 5 1 false 4 (ci 0)),jb 6 .and 5 (cu 1),jb 7 .eql 6 (cu 1),jm 2 7] .ret))⟩
theorem ok93:okF Tryz.prog 93 d93=true:=by kernel_rfl
def Z0qf:LJ:=[jf 8 5 1,jl 9 5 true 8,jl 10 5 true 3,jc 11 92 [9,10],jc 12 91 [11],ja 4 29 [.ints .u8 32 (replicate 32 0)],js' 32 4 12]
def d50:FnD:=⟨23,[.cell 2 32 true],(.sq [jx 1 82 0,ja 2 29 [.ints .u8 32 (replicate 32 0)]] (.sq [jf 5 10 1,jl 6 5 true 5,jc 7 90 [6],ja 3 80 [Z5],js' 5 3 7] (.sq Z0qf (.seq (.sq [jf 13 0 1,jl 14 5 true 13,jl 15 5 true 3,jc 16 92 [14,15],jc 17 93 [16]] (.cond 17 (.ops [ji 18 32 1 4 (ci 31),jl 19 1 false 18,jb 20 .or 19 (c8 128),ji 21 32 1 4 (ci 31),js' 1 21 20]) .skip)) (.sq [jl 22 32 true 4,js' 32 2 22] .ret)))))⟩
theorem ok50:okF Tryz.prog 50 d50=true:=by kernel_rfl
def d124:FnD:=⟨2,[.cell 0 5 true],(.sq [ja 0 80 [Z5]] (.sq [jd 1 [Z5] [(0,1,(cu 1))],js' 5 0 1] .ret))⟩
theorem Z0my:okF Tryz.prog 124 d124=true:=by kernel_rfl
def d134:FnD:=⟨4,[.cell 0 20 true],(.sq [ja 0 82 [Z5,Z5,Z5,Z5]] (.sq [jc 1 124 [],jc 2 124 [],jd 3 [Z5,Z5,Z5,Z5] [(5,5,1),(10,5,2)],js' 20 0 3] .ret))⟩
theorem Z0n8:okF Tryz.prog 134 d134=true:=by kernel_rfl
def Z0ft:Sch:=(.Q 0 (jl 6 5 true 2) (.P 1 (jc 7 156 [6]) (.Q 2 (jl 8 5 true 3) (.P 3 (jc 9 156 [8]) (.e 4 (jo' 5 2 7) (.e 5 (jo' 5 3 9) .nil))))))
def Z0fu:Sch:=(.P 0 (jm 13 5) (.P 1 (ji 14 5 1 2 13) (.P 3 (jm 16 5) (.P 4 (ji 17 5 1 3 16) (.Q 2 (jl 15 1 false 14) (.Q 5 (jl 18 1 false 17) (.P 6 (jb 19 .add 15 18) (.P 7 (ji 20 5 1 2 13) (.e 8 (jo' 1 20 19) .nil)))))))))
def Z0ag:IC:=(.sq [jm 12 10,jm 5 12] (.draw Z0fu [8]))
def Z0da:IC:=(.sq [jb 11 .lss 10 (ci 5)] (.seq (.cond 11 .skip (.exit 0)) (.seq (.block 1 Z0ag) (.ops [jb 21 .add 10 (ci 1),jm 10 21]))))
def Z0af:IC:=(.loop Z0da)
def d127:FnD:=⟨24,[.cell 4 5 true],(.sq [jx 2 80 0,jx 3 80 1,ja 4 80 [Z5]] (.seq (.draw Z0ft [4,5]) (.seq (.sq [jm 10 (ci 0)] (.block 0 Z0af)) (.sq [jl 22 5 true 2,jc 23 155 [22],js' 5 4 23] .ret))))⟩
theorem Z0n1:okF Tryz.prog 127 d127=true:=by kernel_rfl
def Z0fw:LJ:=[ji 7 5 1 1 (ci 0),jl 8 1 false 7,jb 9 .sub (cu 4503599627370458) 8,jd 10 [Z5] [(0,1,9)],ja 3 80 [Z5],js' 5 3 10]
def Z0fx:LJ:=[jm 15 4,jm 16 4,ji 17 5 1 1 16,jl 18 1 false 17,jb 19 .sub (cu 4503599627370494) 18,ji 20 5 1 3 15,js' 1 20 19]
def Z0ai:IC:=(.ops Z0fx)
def Z0db:IC:=(.seq (.sq [jm 11 4,jb 12 .lss 11 (ci 5)] (.cond 12 .skip (.exit 0))) (.seq (.block 1 Z0ai) (.ops [jm 13 4,jb 14 .add 13 (ci 1),jm 4 14])))
def Z0ah:IC:=(.loop Z0db)
def d130:FnD:=⟨23,[.cell 2 5 true],(.sq [jx 1 80 0,ja 2 80 [Z5]] (.sq [jl 5 5 true 1,jc 6 155 [5],js' 5 1 6] (.sq Z0fw (.seq (.sq [jm 4 (ci 1)] (.block 0 Z0ah)) (.sq [jl 21 5 true 3,jc 22 155 [21],js' 5 2 22] .ret)))))⟩
theorem Z0n4:okF Tryz.prog 130 d130=true:=by kernel_rfl
def Z0fs:Sch:=(.Q 0 (jl 5 5 true 2) (.Q 1 (jl 6 5 true 3) (.P 2 (jc 7 130 [6]) (.P 3 (jc 8 127 [5,7]) (.e 4 (jo' 5 4 8) .nil)))))
def d126:FnD:=⟨9,[.cell 4 5 true],(.sq [jx 2 80 0,jx 3 80 1,ja 4 80 [Z5]] (.seq (.draw Z0fs [4]) .ret))⟩
theorem Z0n0:okF Tryz.prog 126 d126=true:=by kernel_rfl
def Z0ho:Sch:=(.Q 0 (jl 9 5 true 4) (.Q 1 (jl 10 5 true 5) (.P 2 (jc 11 92 [9,10]) (.Q 3 (jl 12 5 true 6) (.Q 4 (jl 13 5 true 7) (.P 5 (jc 14 92 [12,13]) (.Q 6 (jl 15 5 true 5) (.Q 7 (jl 16 5 true 6) (.P 8 (jc 17 92 [15,16]) (.Q 9 (jl 18 5 true 4) (.Q 10 (jl 19 5 true 7) (.P 11 (jc 20 92 [18,19]) (.P 12 (jd 21 [Z5,Z5,Z5,Z5] [(0,5,11),(5,5,14),(10,5,17),(15,5,20)]) (.e 13 (jo' 20 8 21) .nil))))))))))))))
def d191:FnD:=⟨22,[.cell 8 20 true],(.sq [jx 4 80 0,jx 5 80 1,jx 6 80 2,jx 7 80 3,ja 8 82 [Z5,Z5,Z5,Z5]] (.seq (.draw Z0ho [13]) .ret))⟩
theorem Z0om:okF Tryz.prog 191 d191=true:=by kernel_rfl
def Z0hp:LJ:=[jd 1 [Z5] [(0,1,(cu 1859910466990425)),(1,1,(cu 932731440258426)),(2,1,(cu 1072319116312658)),(3,1,(cu 1815898335770999)),(4,1,(cu 633789495995903))],js' 5 0 1]
def d192:FnD:=⟨2,[.cell 0 5 true],(.sq [ja 0 80 [Z5]] (.sq Z0hp .ret))⟩
theorem Z0on:okF Tryz.prog 192 d192=true:=by kernel_rfl
def Z0g3:Sch:=(.P 0 (jf 10 5 2) (.P 2 (jf 12 0 2) (.P 5 (jf 15 5 3) (.P 7 (jf 17 0 3) (.Q 1 (jl 11 5 true 10) (.Q 3 (jl 13 5 true 12) (.P 4 (jc 14 126 [11,13]) (.Q 6 (jl 16 5 true 15) (.Q 8 (jl 18 5 true 17) (.P 9 (jc 19 126 [16,18]) (.P 10 (jc 20 92 [14,19]) (.e 11 (oi 5 (.al 80 [Z5])) (.e 12 (jo' 5 5 20) .nil)))))))))))))
def Z0g4:Sch:=(.P 0 (jf 21 5 2) (.P 2 (jf 23 0 2) (.P 5 (jf 26 5 3) (.P 7 (jf 28 0 3) (.Q 1 (jl 22 5 true 21) (.Q 3 (jl 24 5 true 23) (.P 4 (jc 25 127 [22,24]) (.Q 6 (jl 27 5 true 26) (.Q 8 (jl 29 5 true 28) (.P 9 (jc 30 127 [27,29]) (.P 10 (jc 31 92 [25,30]) (.e 11 (oi 6 (.al 80 [Z5])) (.e 12 (jo' 5 6 31) .nil)))))))))))))
def Z0g5:Sch:=(.P 0 (jf 33 15 2) (.P 4 (jf 37 15 3) (.Q 1 (jl 34 5 true 33) (.Q 2 (jl 35 5 true 7) (.P 3 (jc 36 92 [34,35]) (.Q 5 (jl 38 5 true 37) (.P 6 (jc 39 92 [36,38]) (.e 7 (oi 8 (.al 80 [Z5])) (.e 8 (jo' 5 8 39) .nil)))))))))
def Z0g6:Sch:=(.P 0 (jf 40 10 2) (.P 2 (jf 42 10 2) (.P 5 (jf 45 10 3) (.Q 1 (jl 41 5 true 40) (.Q 3 (jl 43 5 true 42) (.P 4 (jc 44 127 [41,43]) (.Q 6 (jl 46 5 true 45) (.P 7 (jc 47 92 [44,46]) (.e 8 (oi 9 (.al 80 [Z5])) (.e 9 (jo' 5 9 47) .nil))))))))))
def Z0g7:Sch:=(.Q 0 (jl 48 5 true 6) (.Q 1 (jl 49 5 true 5) (.P 2 (jc 50 126 [48,49]) (.Q 3 (jl 51 5 true 9) (.Q 4 (jl 52 5 true 8) (.P 5 (jc 53 126 [51,52]) (.Q 6 (jl 54 5 true 9) (.Q 7 (jl 55 5 true 8) (.P 8 (jc 56 127 [54,55]) (.Q 9 (jl 57 5 true 6) (.Q 10 (jl 58 5 true 5) (.P 11 (jc 59 127 [57,58]) (.P 12 (jc 60 191 [50,53,56,59]) (.e 13 (jo' 20 4 60) .nil))))))))))))))
def d136:FnD:=⟨61,[.cell 4 20 true],(.sq [jx 2 82 0,jx 3 82 1,ja 4 82 [Z5,Z5,Z5,Z5]] (.seq (.draw Z0g3 [12]) (.seq (.draw Z0g4 [12]) (.sq [jc 32 192 [],ja 7 80 [Z5],js' 5 7 32] (.seq (.draw Z0g5 [8]) (.seq (.draw Z0g6 [9]) (.seq (.draw Z0g7 [13]) .ret)))))))⟩
theorem Z0na:okF Tryz.prog 136 d136=true:=by kernel_rfl
def Z0g0:Sch:=(.P 0 (jm 10 4) (.P 1 (jb 11 .add 10 (ci 1)) (.P 2 (jm 12 4) (.P 3 (ji 13 16 20 3 12) (.Q 4 (jl 14 20 true 13) (.Q 5 (jl 15 20 true 1) (.P 6 (jc 16 136 [14,15]) (.P 7 (ji 17 16 20 3 11) (.e 8 (jo' 20 17 16) .nil)))))))))
def Z0ao:IC:=(.sq [jm 9 7,jm 4 9] (.draw Z0g0 [8]))
def Z0de:IC:=(.sq [jb 8 .lss 7 (ci 15)] (.seq (.cond 8 .skip (.exit 0)) (.seq (.block 1 Z0ao) (.ops [jb 18 .add 7 (ci 1),jm 7 18]))))
def Z0an:IC:=(.loop Z0de)
def d133:FnD:=⟨20,[.cell 2 320 true],(.sq [jx 1 82 0,ja 2 166 [.rows 20 16 (fun _=>cells [Z5,Z5,Z5,Z5])]] (.sq [ja 3 166 [.rows 20 16 (fun _=>cells [Z5,Z5,Z5,Z5])]] (.sq [jc 5 134 [],ji 6 16 20 3 (ci 0),js' 20 6 5] (.seq (.sq [jm 7 (ci 0)] (.block 0 Z0an)) (.sq [jl 19 320 true 3,js' 320 2 19] .ret)))))⟩
theorem Z0n7:okF Tryz.prog 133 d133=true:=by kernel_rfl
def Z0g1:Sch:=(.P 1 (jf 23 0 1) (.P 3 (jf 25 5 1) (.Q 0 (jl 22 5 true 6) (.Q 2 (jl 24 5 true 23) (.Q 4 (jl 26 5 true 25) (.P 5 (jc 27 127 [24,26]) (.P 6 (jc 28 123 [27]) (.P 7 (jc 29 126 [22,28]) (.e 8 (oi 7 (.al 80 [Z5])) (.e 9 (jo' 5 7 29) .nil))))))))))
def Z0g2:Sch:=(.Q 0 (jl 33 5 true 5) (.Q 1 (jl 34 5 true 5) (.P 2 (jc 35 127 [33,34]) (.Q 3 (jl 36 5 true 8) (.P 4 (jc 37 127 [35,36]) (.e 5 (oi 9 (.al 80 [Z5])) (.e 6 (jo' 5 9 37) .nil)))))))
def d135:FnD:=⟨43,[.cell 2 20 true],(.sq [jx 1 82 0,ja 2 82 [Z5,Z5,Z5,Z5]] (.sq [jf 10 0 1,jl 11 5 true 10,jc 12 123 [11],ja 3 80 [Z5],js' 5 3 12] (.sq [jf 13 5 1,jl 14 5 true 13,jc 15 123 [14],ja 4 80 [Z5],js' 5 4 15] (.sq [jf 16 10 1,jl 17 5 true 16,jc 18 123 [17],ja 5 80 [Z5],js' 5 5 18] (.sq [jl 19 5 true 3,jl 20 5 true 4,jc 21 127 [19,20],ja 6 80 [Z5],js' 5 6 21] (.seq (.draw Z0g1 [9]) (.sq [jl 30 5 true 3,jl 31 5 true 4,jc 32 126 [30,31],ja 8 80 [Z5],js' 5 8 32] (.seq (.draw Z0g2 [6]) (.sq [jl 38 5 true 7,jl 39 5 true 9,jl 40 5 true 8,jl 41 5 true 6,jc 42 191 [38,39,40,41],js' 20 2 42] .ret)))))))))⟩
theorem Z0n9:okF Tryz.prog 135 d135=true:=by kernel_rfl
def Z0g8:LJ:=[jm 5 1,jb 6 .quo 5 (ci 2),jb 7 .sub (ci 31) 6,ji 8 32 1 2 7,jl 9 1 false 8,jm 10 1,jb 11 .rem 10 (ci 2),jb 12 .sub (ci 1) 11,jb 13 .mul (ci 4) 12,jb 14 .shr 9 13,jb 15 .and 14 (c8 15),jm 4 15]
def d137:FnD:=⟨16,[.tmp 4],(.sq [jx 2 74 0,jm 4 (c8 0)] (.sq Z0g8 .ret))⟩
theorem Z0nb:okF Tryz.prog 137 d137=true:=by kernel_rfl
def Z0fk:LJ:=[jm 17 4,jb 18 .mul (ci 8) 17,jb 19 .quo 18 (ci 51),jm 20 4,jb 21 .mul (ci 8) 20,jb 22 .rem 21 (ci 51),jm 6 19,jm 7 22]
def Z0fl:Sch:=(.P 0 (jm 23 6) (.P 1 (ji 24 5 1 3 23) (.P 3 (jm 26 5) (.P 4 (jv 27 .u64 26) (.P 5 (jm 28 7) (.P 6 (jb 29 .shl 27 28) (.P 7 (jb 30 .and 29 (cu 2251799813685247)) (.Q 2 (jl 25 1 false 24) (.P 8 (jb 31 .or 25 30) (.P 9 (ji 32 5 1 3 23) (.e 10 (jo' 1 32 31) .nil)))))))))))
def Z0fm:LJ:=[jm 33 7,jb 34 .gtr 33 (ci 43),jm 35 34,.lg false 35 38 none [.op ⟨some 36,(some (35,true)),.mv 6⟩,.op ⟨some 37,(some (35,true)),.bin .lss 36 (ci 4)⟩] 37]
def Z070:Sch:=(.P 0 (jm 39 6) (.P 1 (jb 40 .add 39 (ci 1)) (.P 2 (ji 41 5 1 3 40) (.P 4 (jm 43 5) (.P 5 (jv 44 .u64 43) (.P 6 (jm 45 7) (.P 7 (jb 46 .sub (ci 51) 45) (.P 8 (jb 47 .shr 44 46) (.Q 3 (jl 42 1 false 41) (.P 9 (jb 48 .or 42 47) (.P 10 (ji 49 5 1 3 40) (.e 11 (jo' 1 49 48) .nil))))))))))))
def Z0ad:IC:=(.sq [jm 11 9,oj 12 (.idx 32 1 false 8 9),jm 4 11,jm 5 12] (.seq (.sq [jm 13 4,jb 14 .eql 13 (ci 31)] (.cond 14 (.ops [jm 15 5,jb 16 .and 15 (c8 127),jm 5 16]) .skip)) (.sq Z0fk (.seq (.draw Z0fl [10]) (.sq Z0fm (.cond 38 (.draw Z070 [11]) .skip))))))
def Z0d9:IC:=(.sq [jb 10 .lss 9 (ci 32)] (.seq (.cond 10 .skip (.exit 0)) (.seq (.block 1 Z0ad) (.ops [jb 50 .add 9 (ci 1),jm 9 50]))))
def Z0ac:IC:=(.loop Z0d9)
def d122:FnD:=⟨53,[.cell 2 5 true],(.sq [jx 1 22 0,ja 2 80 [Z5]] (.sq [ja 3 80 [Z5]] (.seq (.sq [jl 8 32 true 1,jm 9 (ci 0)] (.block 0 Z0ac)) (.sq [jl 51 5 true 3,jc 52 155 [51],js' 5 2 52] .ret))))⟩
theorem Z0mw:okF Tryz.prog 122 d122=true:=by kernel_rfl
def Z0rq:LJ:=[jd 5 [.ints .u8 32 (replicate 32 0)] [(0,1,(c8 26)),(1,1,(c8 213)),(2,1,(c8 37)),(3,1,(c8 143)),(4,1,(c8 96)),(5,1,(c8 45)),(6,1,(c8 86)),(7,1,(c8 201)),(8,1,(c8 178)),(9,1,(c8 167)),(10,1,(c8 37)),(11,1,(c8 149)),(12,1,(c8 96)),(13,1,(c8 199)),(14,1,(c8 44)),(15,1,(c8 105)),(16,1,(c8 92)),(17,1,(c8 220)),(18,1,(c8 214)),(19,1,(c8 253)),(20,1,(c8 49)),(21,1,(c8 226)),(22,1,(c8 164)),(23,1,(c8 192)),(24,1,(c8 254)),(25,1,(c8 83)),(26,1,(c8 110)),(27,1,(c8 205)),(28,1,(c8 211)),(29,1,(c8 54)),(30,1,(c8 105)),(31,1,(c8 33))],jc 6 122 [5],ja 1 80 [Z5],js' 5 1 6]
def Z0rr:LJ:=[jd 7 [.ints .u8 32 (replicate 32 0)] [(0,1,(c8 88))],ja 2 22 [.ints .u8 32 (replicate 32 0)],js' 32 2 7]
def Z0lk:IC:=(.sq [jm 10 8,jm 3 10] (.ops [jm 11 3,jb 12 .add 11 (ci 1),ji 13 32 1 2 12,js' 1 13 (c8 102)]))
def Z0md:IC:=(.sq [jb 9 .lss 8 (ci 31)] (.seq (.cond 9 .skip (.exit 0)) (.seq (.block 1 Z0lk) (.ops [jb 14 .add 8 (ci 1),jm 8 14]))))
def Z0lj:IC:=(.loop Z0md)
def Z0rs:Sch:=(.P 2 (jc 19 124 []) (.Q 0 (jl 17 5 true 1) (.Q 1 (jl 18 5 true 4) (.Q 3 (jl 20 5 true 1) (.Q 4 (jl 21 5 true 4) (.P 5 (jc 22 92 [20,21]) (.P 6 (jd 23 [Z5,Z5,Z5,Z5] [(0,5,17),(5,5,18),(10,5,19),(15,5,22)]) (.e 7 (jo' 20 0 23) .nil))))))))
def d95:FnD:=⟨24,[.cell 0 20 true],(.sq [ja 0 82 [Z5,Z5,Z5,Z5]] (.sq Z0rq (.sq Z0rr (.seq (.sq [jm 8 (ci 0)] (.block 0 Z0lj)) (.sq [jl 15 32 true 2,jc 16 122 [15],ja 4 80 [Z5],js' 5 4 16] (.seq (.draw Z0rs [7]) .ret))))))⟩
theorem ok95:okF Tryz.prog 95 d95=true:=by kernel_rfl
def Z0bc:IC:=(.sq [jm 17 15,ji' 18 1 13 15,jl 19 1 false 18,jm 8 17,jm 9 19] (.ops [jm 20 6,jm 21 9,jv 22 .u64 21,jm 23 8,jb 24 .mul (ci 8) 23,jb 25 .shl 22 24,jb 26 .or 20 25,jm 6 26]))
def Z0dq:IC:=(.sq [jb 16 .lss 15 14] (.seq (.cond 16 .skip (.exit 0)) (.seq (.block 1 Z0bc) (.ops [jb 27 .add 15 (ci 1),jm 15 27]))))
def Z0bb:IC:=(.loop Z0dq)
def d160:FnD:=⟨31,[.tmp 4,.tmp 5],(.sq [jm 4 (cu 0),jm 5 (.const (.bool false))] (.sq [jm 6 (cu 0)] (.sq [jm 10 0,jm 11 1,jc 12 203 [10,11],jm 7 12] (.seq (.sq [jm 13 7,jn' 14 13,jm 15 (ci 0)] (.block 0 Z0bb)) (.sq [jm 28 6,jm 29 7,oj 30 (.isn true 29),jm 4 28,jm 5 30] .ret)))))⟩
theorem Z0nx:okF Tryz.prog 160 d160=true:=by kernel_rfl
def Z0ci:IC:=(.sq [jm 12 10,jm 4 12] (.sq [jm 13 3,jm 14 4,jm 15 0,jv 16 .u8 15,ji' 17 1 13 14,js' 1 17 16] (.ops [jm 18 0,jb 19 .shr 18 (cu 8),jm 0 19])))
def Z0eb:IC:=(.sq [jb 11 .lss 10 9] (.seq (.cond 11 .skip (.exit 0)) (.seq (.block 1 Z0ci) (.ops [jb 20 .add 10 (ci 1),jm 10 20]))))
def Z0ch:IC:=(.loop Z0eb)
def d204:FnD:=⟨22,[.tmp 2],(.sq [jm 2 (.const (.slice none 0 0))] (.sq [jc 5 183 [],jb 6 .quo 5 (ci 8),oj 7 (.mks 5 1 [.one (.int .u8 0)] 6 6),jm 3 7] (.seq (.sq [jm 8 3,jn' 9 8,jm 10 (ci 0)] (.block 0 Z0ch)) (.sq [jm 21 3,jm 2 21] .ret))))⟩
theorem Z0oz:okF Tryz.prog 204 d204=true:=by kernel_rfl
def Z0gy:Sch:=(.P 0 (jm 11 4) (.P 1 (jb 12 .mul (ci 8) 11) (.P 2 (oj 13 (.sla 32 1 3 (some 12) none none)) (.P 3 (jm 14 5) (.e 4 (oi 15 (.call 204 [14])) (.e 5 (oi 16 (.cpy 1 13 15)) .nil))))))
def Z0be:IC:=(.sq [jm 9 7,oj 10 (.idx 4 1 false 6 7),jm 4 9,jm 5 10] (.draw Z0gy [5]))
def Z0dr:IC:=(.sq [jb 8 .lss 7 (ci 4)] (.seq (.cond 8 .skip (.exit 0)) (.seq (.block 1 Z0be) (.ops [jb 17 .add 7 (ci 1),jm 7 17]))))
def Z0bd:IC:=(.loop Z0dr)
def d161:FnD:=⟨19,[.cell 2 32 true],(.sq [jx 1 162 0,ja 2 74 [.ints .u8 32 (replicate 32 0)]] (.sq [ja 3 74 [.ints .u8 32 (replicate 32 0)]] (.seq (.sq [jl 6 4 true 1,jm 7 (ci 0)] (.block 0 Z0bd)) (.sq [jl 18 32 true 3,js' 32 2 18] .ret))))⟩
theorem Z0ny:okF Tryz.prog 161 d161=true:=by kernel_rfl
def Z0fy:Sch:=(.P 0 (jm 12 7) (.P 1 (jm 13 7) (.P 2 (ji 14 4 1 2 13) (.P 4 (jm 16 7) (.P 5 (ji 17 4 1 3 16) (.P 7 (jm 19 6) (.Q 3 (jl 15 1 false 14) (.Q 6 (jl 18 1 false 17) (.P 8 (oj 20 (.xcall 190 [15,18,19])) (.P 9 (jm 11 20) (.P 10 (je 21 11 0) (.P 11 (je 22 11 1) (.P 12 (ji 23 4 1 2 12) (.e 13 (jo' 1 23 21) (.P 14 (jm 6 22) .nil)))))))))))))))
def Z0ak:IC:=(.sq [jm 10 8,jm 7 10] (.draw Z0fy [13]))
def Z0dc:IC:=(.sq [jb 9 .lss 8 (ci 4)] (.seq (.cond 9 .skip (.exit 0)) (.seq (.block 1 Z0ak) (.ops [jb 24 .add 8 (ci 1),jm 8 24]))))
def Z0aj:IC:=(.loop Z0dc)
def d131:FnD:=⟨27,[.cell 4 4 true,.tmp 5],(.sq [jx 2 162 0,jx 3 162 1,ja 4 162 [.ints .u64 4 (replicate 4 0)],jm 5 (cu 0)] (.sq [jm 6 (cu 0)] (.seq (.sq [jm 8 (ci 0)] (.block 0 Z0aj)) (.sq [jl 25 4 true 2,jm 26 6,js' 4 4 25,jm 5 26] .ret))))⟩
theorem Z0n5:okF Tryz.prog 131 d131=true:=by kernel_rfl
def Z0h3:Sch:=(.P 0 (jm 12 7) (.P 1 (jm 13 7) (.P 2 (ji 14 4 1 2 13) (.P 4 (jm 16 7) (.P 5 (ji 17 4 1 3 16) (.P 7 (jm 19 6) (.Q 3 (jl 15 1 false 14) (.Q 6 (jl 18 1 false 17) (.P 8 (oj 20 (.xcall 158 [15,18,19])) (.P 9 (jm 11 20) (.P 10 (je 21 11 0) (.P 11 (je 22 11 1) (.P 12 (ji 23 4 1 2 12) (.e 13 (jo' 1 23 21) (.P 14 (jm 6 22) .nil)))))))))))))))
def Z0bi:IC:=(.sq [jm 10 8,jm 7 10] (.draw Z0h3 [13]))
def Z0dt:IC:=(.sq [jb 9 .lss 8 (ci 4)] (.seq (.cond 9 .skip (.exit 0)) (.seq (.block 1 Z0bi) (.ops [jb 24 .add 8 (ci 1),jm 8 24]))))
def Z0bh:IC:=(.loop Z0dt)
def d165:FnD:=⟨27,[.cell 4 4 true,.tmp 5],(.sq [jx 2 162 0,jx 3 162 1,ja 4 162 [.ints .u64 4 (replicate 4 0)],jm 5 (cu 0)] (.sq [jm 6 (cu 0)] (.seq (.sq [jm 8 (ci 0)] (.block 0 Z0bh)) (.sq [jl 25 4 true 2,jm 26 6,js' 4 4 25,jm 5 26] .ret))))⟩
theorem Z0o2:okF Tryz.prog 165 d165=true:=by kernel_rfl
def Z0h4:Sch:=(.P 0 (jm 8 3) (.P 1 (ji 9 4 1 1 8) (.P 3 (jm 11 3) (.P 4 (ji 12 4 1 (.global 1) 11) (.Q 2 (jl 10 1 false 9) (.Q 5 (jl 13 1 false 12) (.P 6 (jb 14 .lss 10 13) .nil)))))))
def Z0h5:Sch:=(.P 0 (jm 15 3) (.P 1 (ji 16 4 1 1 15) (.P 3 (jm 18 3) (.P 4 (ji 19 4 1 (.global 1) 18) (.Q 2 (jl 17 1 false 16) (.Q 5 (jl 20 1 false 19) (.P 6 (jb 21 .gtr 17 20) .nil)))))))
def Z0bm:IC:=(.seq (.seq (.draw Z0h4 []) (.cond 14 (.exit 0) .skip)) (.seq (.draw Z0h5 []) (.cond 21 (.exit 2) .skip)))
def Z0dv:IC:=(.seq (.sq [jm 4 3,jb 5 .geq 4 (ci 0)] (.cond 5 .skip (.exit 2))) (.seq (.block 3 Z0bm) (.ops [jm 6 3,jb 7 .sub 6 (ci 1),jm 3 7])))
def Z0bl:IC:=(.loop Z0dv)
def Z0bk:IC:=(.seq (.sq [jm 3 (ci 3)] (.block 2 Z0bl)) (.ops [jl 23 4 true 1,jl 24 4 true (.global 1),jc 25 131 [23,24],jm 22 25,je 26 22 0,je 27 22 1,js' 4 1 26]))
def Z0du:IC:=(.block 1 Z0bk)
def Z0bj:IC:=(.loop Z0du)
def d167:FnD:=⟨29,[.cell 2 4 true],(.sq [jx 1 162 0,ja 2 162 [.ints .u64 4 (replicate 4 0)]] (.scope (.seq .lbl (.seq (.block 0 Z0bj) (.sq [jl 28 4 true 1,js' 4 2 28] .ret)))))⟩
theorem Z0o3:okF Tryz.prog 167 d167=true:=by kernel_rfl
def Z07a:LJ:=[jm 41 12,jm 42 5,jm 43 6,jm 44 9,jb 45 .add 43 44,ji' 46 1 42 45,jl 47 1 false 46,oj 48 (.xcall 158 [41,47,(cu 0)]),jm 40 48,je 49 40 0,je 50 40 1,jm 12 49,jm 13 50]
def Z07b:LJ:=[jm 60 5,jm 61 6,jm 62 9,jb 63 .add 61 62,jm 64 12,jm 65 11,jm 66 13,jb 67 .add 65 66,ji' 68 1 60 63,js' 1 68 64,jm 8 67]
def Z0bq:IC:=(.sq [jm 31 29,ji' 32 1 27 29,jl 33 1 false 32,jm 9 31,jm 10 33] (.sq [jm 35 7,jm 36 10,jc 37 200 [35,36],jm 34 37,je 38 34 0,je 39 34 1,jm 11 38,jm 12 39] (.sq Z07a (.sq [jm 51 11,jm 52 13,jb 53 .add 51 52,jm 11 53] (.sq [jm 55 12,jm 56 8,oj 57 (.xcall 158 [55,56,(cu 0)]),jm 54 57,je 58 54 0,je 59 54 1,jm 12 58,jm 13 59] (.ops Z07b))))))
def Z0dx:IC:=(.sq [jb 30 .lss 29 28] (.seq (.cond 30 .skip (.exit 2)) (.seq (.block 3 Z0bq) (.ops [jb 69 .add 29 (ci 1),jm 29 69]))))
def Z0bp:IC:=(.loop Z0dx)
def Z0bo:IC:=(.sq [jm 24 22,ji' 25 1 20 22,jl 26 1 false 25,jm 6 24,jm 7 26] (.sq [jm 8 (cu 0)] (.seq (.sq [jm 27 1,jn' 28 27,jm 29 (ci 0)] (.block 2 Z0bp)) (.ops [jm 70 5,jm 71 6,jm 72 1,jn' 73 72,jb 74 .add 71 73,jm 75 8,ji' 76 1 70 74,js' 1 76 75]))))
def Z0dw:IC:=(.sq [jb 23 .lss 22 21] (.seq (.cond 23 .skip (.exit 0)) (.seq (.block 1 Z0bo) (.ops [jb 77 .add 22 (ci 1),jm 22 77]))))
def Z0bn:IC:=(.loop Z0dw)
def d168:FnD:=⟨79,[.tmp 4],(.sq [jm 4 (.const (.slice none 0 0))] (.sq [jm 14 0,jn' 15 14,jm 16 1,jn' 17 16,jb 18 .add 15 17,oj 19 (.mks 78 8 [.one (.int .u64 0)] 18 18),jm 5 19] (.seq (.sq [jm 20 0,jn' 21 20,jm 22 (ci 0)] (.block 0 Z0bn)) (.sq [jm 78 5,jm 4 78] .ret))))⟩
theorem Z0o4:okF Tryz.prog 168 d168=true:=by kernel_rfl
def Z07e:LJ:=[jm 31 7,jm 32 0,jm 33 6,jb 34 .add 33 (ci 1),ji' 35 1 32 34,jl 36 1 false 35,jb 37 .shl 36 (cu 4),jb 38 .or 31 37,jm 7 38]
def Z07f:LJ:=[jm 39 5,jm 40 7,oj 41 (.bs 78 1 1 [.one (.int .u64 0)] [(0,1,40)]),oj 42 (.app 78 1 8 [.one (.int .u64 0)] 39 41),jm 5 42]
def Z0ck:IC:=(.sq [jm 21 0,jm 22 6,ji' 23 1 21 22,jl 24 1 false 23,jb 25 .shr 24 (cu 60),jm 7 25] (.seq (.sq [jm 26 6,jb 27 .add 26 (ci 1),jm 28 0,jn' 29 28,jb 30 .lss 27 29] (.cond 30 (.ops Z07e) .skip)) (.ops Z07f)))
def Z0ec:IC:=(.seq (.sq [jm 15 6,jm 16 0,jn' 17 16,jb 18 .lss 15 17] (.cond 18 .skip (.exit 0))) (.seq (.block 1 Z0ck) (.ops [jm 19 6,jb 20 .add 19 (ci 1),jm 6 20])))
def Z0cj:IC:=(.loop Z0ec)
def d205:FnD:=⟨45,[.cell 2 4 true,.tmp 3],(.sq [ja 2 162 [.ints .u64 4 (replicate 4 0)],jm 3 (.const (.slice none 0 0))] (.sq [ja 4 162 [.ints .u64 4 (replicate 4 0)]] (.sq [oj 8 (.sla 4 1 4 none none none),jm 9 0,oj 10 (.cpy 1 8 9)] (.sq [ji 11 4 1 4 (ci 3),jl 12 1 false 11,jb 13 .and 12 (cu 1152921504606846975),ji 14 4 1 4 (ci 3),js' 1 14 13] (.sq [jm 5 (.const (.slice none 0 0))] (.seq (.sq [jm 6 (ci 3)] (.block 0 Z0cj)) (.sq [jl 43 4 true 4,jm 44 5,js' 4 2 43,jm 3 44] .ret)))))))⟩
theorem Z0p0:okF Tryz.prog 205 d205=true:=by kernel_rfl
def Z0i4:LJ:=[oj 1 (.bs 78 2 1 [.one (.int .u64 0),.one (.int .u64 0)] [(0,1,(cu 6346243789798364141)),(1,1,(cu 1503914060200516822))]),jm 0 1]
def d206:FnD:=⟨2,[.tmp 0],(.sq [jm 0 (.const (.slice none 0 0))] (.sq Z0i4 .ret))⟩
theorem Z0p1:okF Tryz.prog 206 d206=true:=by kernel_rfl
def Z0gz:Sch:=(.P 0 (jm 19 4) (.P 1 (jb 20 .rem 19 (ci 2)) (.P 2 (jm 21 4) (.P 3 (jb 22 .rem 21 (ci 2)) (.P 4 (ji 23 2 4 3 22) (.Q 5 (jl 24 4 true 23) (.Q 6 (jl 25 4 true 5) (.P 7 (jc 26 165 [24,25]) (.P 8 (jm 18 26) (.P 9 (je 27 18 0) (.P 10 (je 28 18 1) (.P 11 (ji 29 2 4 3 20) (.e 12 (jo' 4 29 27) .nil)))))))))))))
def Z0bg:IC:=(.sq [jm 12 10,jm 4 12] (.sq [ja 5 162 [.ints .u64 4 (replicate 4 0)]] (.sq [jm 14 0,jc 15 205 [14],jm 13 15,je 16 13 0,je 17 13 1,js' 4 5 16,jm 0 17] (.seq (.draw Z0gz [12]) (.ops [jm 30 0,jc 31 206 [],jc 32 168 [30,31],jm 0 32])))))
def Z0ds:IC:=(.sq [jb 11 .lss 10 (ci 4)] (.seq (.cond 11 .skip (.exit 0)) (.seq (.block 1 Z0bg) (.ops [jb 33 .add 10 (ci 1),jm 10 33]))))
def Z0bf:IC:=(.loop Z0ds)
def Z077:LJ:=[jl 35 4 true (.global 1),jl 36 4 true (.global 1),jc 37 165 [35,36],jm 34 37,je 38 34 0,je 39 34 1,ja 6 162 [.ints .u64 4 (replicate 4 0)],js' 4 6 38,jm 7 39]
def Z078:LJ:=[ji 41 2 4 3 (ci 0),jl 42 4 true 41,jl 43 4 true 6,jc 44 165 [42,43],jm 40 44,je 45 40 0,je 46 40 1,ja 8 162 [.ints .u64 4 (replicate 4 0)],js' 4 8 45,jm 9 46]
def Z079:LJ:=[jl 48 4 true 8,ji 49 2 4 3 (ci 1),jl 50 4 true 49,jc 51 131 [48,50],jm 47 51,je 52 47 0,je 53 47 1,js' 4 8 52]
def d162:FnD:=⟨56,[.cell 2 4 true],(.sq [ja 2 162 [.ints .u64 4 (replicate 4 0)]] (.sq [ja 3 229 [.rows 4 2 (fun _=>cells [.ints .u64 4 (replicate 4 0)])]] (.seq (.sq [jm 10 (ci 0)] (.block 0 Z0bf)) (.sq Z077 (.sq Z078 (.sq Z079 (.sq [jl 54 4 true 8,jc 55 167 [54],js' 4 2 55] .ret)))))))⟩
theorem Z0nz:okF Tryz.prog 162 d162=true:=by kernel_rfl
def Z0rx:LJ:=[jm 9 4,oj 10 (.sla 64 1 1 none none none),jm 11 4,jb 12 .mul (ci 8) 11,jc 13 160 [10,12],jm 8 13,je 14 8 0,je 15 8 1,ji 16 8 1 3 9,js' 1 16 14]
def Z0lo:IC:=(.sq [jm 7 5,jm 4 7] (.ops Z0rx))
def Z0mf:IC:=(.sq [jb 6 .lss 5 (ci 8)] (.seq (.cond 6 .skip (.exit 0)) (.seq (.block 1 Z0lo) (.ops [jb 17 .add 5 (ci 1),jm 5 17]))))
def Z0ln:IC:=(.loop Z0mf)
def d98:FnD:=⟨21,[.cell 2 32 true],(.sq [jx 1 94 0,ja 2 74 [.ints .u8 32 (replicate 32 0)]] (.sq [ja 3 144 [.ints .u64 8 (replicate 8 0)]] (.seq (.sq [jm 5 (ci 0)] (.block 0 Z0ln)) (.sq [oj 18 (.sla 8 1 3 none none none),jc 19 162 [18],jc 20 161 [19],js' 32 2 20] .ret))))⟩
theorem ok98:okF Tryz.prog 98 d98=true:=by kernel_rfl
def Z0ks:IC:=(.sq [ji' 11 1 7 9,jl 12 1 false 11,jm 5 12] (.ops [jm 13 3,jm 14 5,jc 15 97 [13,14]]))
def Z0lz:IC:=(.sq [jb 10 .lss 9 8] (.seq (.cond 10 .skip (.exit 0)) (.seq (.block 1 Z0ks) (.ops [jb 16 .add 9 (ci 1),jm 9 16]))))
def Z0kr:IC:=(.loop Z0lz)
def d52:FnD:=⟨20,[.cell 2 32 true],(.sq [ja 2 74 [.ints .u8 32 (replicate 32 0)]] (.sq [jc 6 96 [],jm 3 6] (.seq (.sq [jm 7 0,jn' 8 7,jm 9 (ci 0)] (.block 0 Z0kr)) (.sq [jm 17 3,jc 18 99 [17],jc 19 98 [18],js' 32 2 19] .ret))))⟩
theorem ok52:okF Tryz.prog 52 d52=true:=by kernel_rfl
def Z0fz:LJ:=[jm 9 4,oj 10 (.sla 32 1 1 none none none),jm 11 4,jb 12 .mul (ci 8) 11,jc 13 160 [10,12],jm 8 13,je 14 8 0,je 15 8 1,ji 16 4 1 3 9,js' 1 16 14]
def Z0am:IC:=(.sq [jm 7 5,jm 4 7] (.ops Z0fz))
def Z0dd:IC:=(.sq [jb 6 .lss 5 (ci 4)] (.seq (.cond 6 .skip (.exit 0)) (.seq (.block 1 Z0am) (.ops [jb 17 .add 5 (ci 1),jm 5 17]))))
def Z0al:IC:=(.loop Z0dd)
def d132:FnD:=⟨19,[.cell 2 4 true],(.sq [jx 1 74 0,ja 2 162 [.ints .u64 4 (replicate 4 0)]] (.sq [ja 3 162 [.ints .u64 4 (replicate 4 0)]] (.seq (.sq [jm 5 (ci 0)] (.block 0 Z0al)) (.sq [jl 18 4 true 3,js' 4 2 18] .ret))))⟩
theorem Z0n6:okF Tryz.prog 132 d132=true:=by kernel_rfl
def Z0hy:Sch:=(.P 0 (jm 12 6) (.P 1 (ji 13 10 1 2 12) (.P 5 (jm 17 6) (.P 6 (ji 18 10 1 3 17) (.P 9 (jm 21 5) (.Q 2 (jl 14 1 false 13) (.P 3 (jb 15 .add 14 (cu 67108863)) (.P 4 (jb 16 .add 15 (cu 1)) (.Q 7 (jl 19 1 false 18) (.P 8 (jb 20 .sub 16 19) (.P 10 (jb 22 .sub 20 21) (.P 11 (jm 7 22) .nil))))))))))))
def Z0cc:IC:=(.seq (.draw Z0hy []) (.sq [jm 23 7,jb 24 .shr 23 (cu 26),jb 25 .sub (cu 1) 24,jm 5 25] (.ops [jm 26 6,jm 27 7,jb 28 .and 27 (cu 67108863),ji 29 10 1 2 26,js' 1 29 28])))
def Z0e8:IC:=(.seq (.sq [jm 8 6,jb 9 .lss 8 (ci 10)] (.cond 9 .skip (.exit 0))) (.seq (.block 1 Z0cc) (.ops [jm 10 6,jb 11 .add 10 (ci 1),jm 6 11])))
def Z0cb:IC:=(.loop Z0e8)
def d197:FnD:=⟨31,[.cell 4 10 true],(.sq [jx 2 88 0,jx 3 88 1,ja 4 88 [Z10]] (.sq [jm 5 (cu 0)] (.seq (.sq [jm 6 (ci 0)] (.block 0 Z0cb)) (.sq [jl 30 10 true 2,js' 10 4 30] .ret))))⟩
theorem Z0os:okF Tryz.prog 197 d197=true:=by kernel_rfl
def Z0hz:LJ:=[jd 1 [Z10] [(0,1,(cu 67108845)),(1,1,(cu 67108863)),(2,1,(cu 67108863)),(3,1,(cu 67108863)),(4,1,(cu 67108863)),(5,1,(cu 67108863)),(6,1,(cu 67108863)),(7,1,(cu 67108863)),(8,1,(cu 67108863)),(9,1,(cu 2097151))],js' 10 0 1]
def d198:FnD:=⟨2,[.cell 0 10 true],(.sq [ja 0 88 [Z10]] (.sq Z0hz .ret))⟩
theorem Z0ot:okF Tryz.prog 198 d198=true:=by kernel_rfl
def Z0i5:Sch:=(.P 0 (jm 8 3) (.P 1 (jb 9 .add 8 (ci 1)) (.P 2 (jm 10 3) (.P 3 (jb 11 .add 10 (ci 1)) (.P 4 (ji 12 10 1 1 11) (.P 6 (jm 14 3) (.P 7 (ji 15 10 1 1 14) (.Q 5 (jl 13 1 false 12) (.Q 8 (jl 16 1 false 15) (.P 9 (jb 17 .shr 16 (cu 26)) (.P 10 (jb 18 .add 13 17) (.P 11 (ji 19 10 1 1 9) (.e 12 (jo' 1 19 18) .nil)))))))))))))
def Z0cm:IC:=(.seq (.draw Z0i5 [12]) (.ops [jm 20 3,jm 21 3,ji 22 10 1 1 21,jl 23 1 false 22,jb 24 .and 23 (cu 67108863),ji 25 10 1 1 20,js' 1 25 24]))
def Z0ed:IC:=(.seq (.sq [jm 4 3,jb 5 .lss 4 (ci 9)] (.cond 5 .skip (.exit 0))) (.seq (.block 1 Z0cm) (.ops [jm 6 3,jb 7 .add 6 (ci 1),jm 3 7])))
def Z0cl:IC:=(.loop Z0ed)
def d207:FnD:=⟨27,[.cell 2 10 true],(.sq [jx 1 88 0,ja 2 88 [Z10]] (.seq (.sq [jm 3 (ci 0)] (.block 0 Z0cl)) (.sq [jl 26 10 true 1,js' 10 2 26] .ret)))⟩
theorem Z0p2:okF Tryz.prog 207 d207=true:=by kernel_rfl
def Z0i6:Sch:=(.P 0 (jm 10 5) (.P 1 (ji 11 10 1 2 10) (.P 3 (jm 13 5) (.P 4 (ji 14 10 1 3 13) (.Q 2 (jl 12 1 false 11) (.Q 5 (jl 15 1 false 14) (.P 6 (jb 16 .neq 12 15) .nil)))))))
def Z0i7:Sch:=(.P 0 (jm 17 5) (.P 1 (ji 18 10 1 2 17) (.P 3 (jm 20 5) (.P 4 (ji 21 10 1 3 20) (.Q 2 (jl 19 1 false 18) (.Q 5 (jl 22 1 false 21) (.P 6 (jb 23 .lss 19 22) (.P 7 (jm 4 23) .nil))))))))
def Z0co:IC:=(.seq (.draw Z0i6 []) (.cond 16 (.seq (.draw Z0i7 []) .ret) .skip))
def Z0ee:IC:=(.seq (.sq [jm 6 5,jb 7 .geq 6 (ci 0)] (.cond 7 .skip (.exit 0))) (.seq (.block 1 Z0co) (.ops [jm 8 5,jb 9 .sub 8 (ci 1),jm 5 9])))
def Z0cn:IC:=(.loop Z0ee)
def d208:FnD:=⟨24,[.tmp 4],(.sq [jx 2 88 0,jx 3 88 1,jm 4 (.const (.bool false))] (.seq (.sq [jm 5 (ci 9)] (.block 0 Z0cn)) (.sq [jm 4 (.const (.bool false))] .ret)))⟩
theorem Z0p3:okF Tryz.prog 208 d208=true:=by kernel_rfl
def Z0h7:LJ:=[ji 9 10 1 1 (ci 0),jl 10 1 false 9,ji 11 10 1 1 (ci 9),jl 12 1 false 11,jb 13 .shr 12 (cu 21),jb 14 .mul (cu 19) 13,jb 15 .add 10 14,ji 16 10 1 1 (ci 0),js' 1 16 15]
def Z0bw:IC:=(.sq Z0h7 (.sq [ji 17 10 1 1 (ci 9),jl 18 1 false 17,jb 19 .and 18 (cu 2097151),ji 20 10 1 1 (ci 9),js' 1 20 19] (.ops [jl 21 10 true 1,jc 22 207 [21],js' 10 1 22])))
def Z0e0:IC:=(.seq (.sq [ji 6 10 1 1 (ci 9),jl 7 1 false 6,jb 8 .gtr 7 (cu 2097151)] (.cond 8 .skip (.exit 0))) (.block 1 Z0bw))
def Z0bv:IC:=(.loop Z0e0)
def d172:FnD:=⟨32,[.cell 2 10 true],(.sq [jx 1 88 0,ja 2 88 [Z10]] (.sq [jl 4 10 true 1,jc 5 207 [4],js' 10 1 5] (.seq (.block 0 Z0bv) (.sq [jc 23 198 [],ja 3 88 [Z10],js' 10 3 23] (.seq (.sq [jl 24 10 true 1,jl 25 10 true 3,jc 26 208 [24,25],oj 27 (.un .not 26)] (.cond 27 (.ops [jl 28 10 true 1,jl 29 10 true 3,jc 30 197 [28,29],js' 10 1 30]) .skip)) (.sq [jl 31 10 true 1,js' 10 2 31] .ret))))))⟩
theorem Z0o7:okF Tryz.prog 172 d172=true:=by kernel_rfl
def Z0fb:Sch:=(.P 0 (jm 19 6) (.P 1 (jm 20 7) (.P 2 (jb 21 .add 19 20) (.P 3 (jm 22 6) (.P 4 (jm 23 7) (.P 5 (jb 24 .add 22 23) (.P 6 (ji 25 20 1 5 24) (.P 8 (jm 27 6) (.P 9 (ji 28 10 1 2 27) (.P 11 (jm 30 7) (.P 12 (ji 31 10 1 3 30) (.Q 7 (jl 26 1 false 25) (.Q 10 (jl 29 1 false 28) (.Q 13 (jl 32 1 false 31) (.P 14 (jb 33 .mul 29 32) (.P 15 (jb 34 .add 26 33) (.P 16 (ji 35 20 1 5 21) (.e 17 (jo' 1 35 34) .nil))))))))))))))))))
def Z09n:IC:=(.draw Z0fb [17])
def Z0cw:IC:=(.seq (.sq [jm 15 7,jb 16 .lss 15 (ci 10)] (.cond 16 .skip (.exit 2))) (.seq (.block 3 Z09n) (.ops [jm 17 7,jb 18 .add 17 (ci 1),jm 7 18])))
def Z09m:IC:=(.loop Z0cw)
def Z09l:IC:=(.sq [jm 7 (ci 0)] (.block 2 Z09m))
def Z0cv:IC:=(.seq (.sq [jm 11 6,jb 12 .lss 11 (ci 10)] (.cond 12 .skip (.exit 0))) (.seq (.block 1 Z09l) (.ops [jm 13 6,jb 14 .add 13 (ci 1),jm 6 14])))
def Z09k:IC:=(.loop Z0cv)
def Z06x:Sch:=(.P 0 (jm 40 8) (.P 1 (jb 41 .add 40 (ci 1)) (.P 2 (jm 42 8) (.P 3 (jb 43 .add 42 (ci 1)) (.P 4 (ji 44 20 1 5 43) (.P 6 (jm 46 8) (.P 7 (ji 47 20 1 5 46) (.Q 5 (jl 45 1 false 44) (.Q 8 (jl 48 1 false 47) (.P 9 (jb 49 .shr 48 (cu 26)) (.P 10 (jb 50 .add 45 49) (.P 11 (ji 51 20 1 5 41) (.e 12 (jo' 1 51 50) .nil)))))))))))))
def Z09p:IC:=(.seq (.draw Z06x [12]) (.ops [jm 52 8,jm 53 8,ji 54 20 1 5 53,jl 55 1 false 54,jb 56 .and 55 (cu 67108863),ji 57 20 1 5 52,js' 1 57 56]))
def Z0cx:IC:=(.seq (.sq [jm 36 8,jb 37 .lss 36 (ci 19)] (.cond 37 .skip (.exit 4))) (.seq (.block 5 Z09p) (.ops [jm 38 8,jb 39 .add 38 (ci 1),jm 8 39])))
def Z09o:IC:=(.loop Z0cx)
def Z06y:Sch:=(.P 0 (jm 62 10) (.P 1 (jm 63 10) (.P 2 (ji 64 20 1 5 63) (.P 4 (jm 66 10) (.P 5 (jb 67 .add 66 (ci 10)) (.P 6 (ji 68 20 1 5 67) (.Q 3 (jl 65 1 false 64) (.Q 7 (jl 69 1 false 68) (.P 8 (jb 70 .mul (cu 608) 69) (.P 9 (jb 71 .add 65 70) (.P 10 (ji 72 10 1 9 62) (.e 11 (jo' 1 72 71) .nil))))))))))))
def Z09r:IC:=(.draw Z06y [11])
def Z0cy:IC:=(.seq (.sq [jm 58 10,jb 59 .lss 58 (ci 10)] (.cond 59 .skip (.exit 6))) (.seq (.block 7 Z09r) (.ops [jm 60 10,jb 61 .add 60 (ci 1),jm 10 61])))
def Z09q:IC:=(.loop Z0cy)
def d104:FnD:=⟨75,[.cell 4 10 true],(.sq [jx 2 88 0,jx 3 88 1,ja 4 88 [Z10]] (.sq [ja 5 205 [.ints .u64 20 (replicate 20 0)]] (.seq (.sq [jm 6 (ci 0)] (.block 0 Z09k)) (.seq (.sq [jm 8 (ci 0)] (.block 4 Z09o)) (.sq [ja 9 88 [Z10]] (.seq (.sq [jm 10 (ci 0)] (.block 6 Z09q)) (.sq [jl 73 10 true 9,jc 74 172 [73],js' 10 4 74] .ret)))))))⟩
theorem Z0mk:okF Tryz.prog 104 d104=true:=by kernel_rfl
def Z0he:LJ:=[jm 3 0,jb 4 .and 3 (cu 67108863),jm 5 0,jb 6 .shr 5 (cu 26),jb 7 .and 6 (cu 67108863),jm 8 0,jb 9 .shr 8 (cu 52),jd 10 [Z10] [(0,1,4),(1,1,7),(2,1,9)],js' 10 2 10]
def d176:FnD:=⟨11,[.cell 2 10 true],(.sq [ja 2 88 [Z10]] (.sq Z0he .ret))⟩
theorem Z0ob:okF Tryz.prog 176 d176=true:=by kernel_rfl
def Z0h6:LJ:=[jm 15 6,jb 16 .quo 15 (ci 8),ji 17 32 1 3 16,jl 18 1 false 17,jm 19 6,jb 20 .rem 19 (ci 8),jb 21 .shr 18 20,jb 22 .and 21 (c8 1),jb 23 .eql 22 (c8 1)]
def Z0bs:IC:=(.sq [jl 12 10 true 5,jl 13 10 true 5,jc 14 104 [12,13],js' 10 5 14] (.sq Z0h6 (.cond 23 (.ops [jl 24 10 true 5,jl 25 10 true 2,jc 26 104 [24,25],js' 10 5 26]) .skip)))
def Z0dy:IC:=(.seq (.sq [jm 8 6,jb 9 .geq 8 (ci 0)] (.cond 9 .skip (.exit 0))) (.seq (.block 1 Z0bs) (.ops [jm 10 6,jb 11 .sub 10 (ci 1),jm 6 11])))
def Z0br:IC:=(.loop Z0dy)
def d170:FnD:=⟨28,[.cell 4 10 true],(.sq [jx 2 88 0,jx 3 22 1,ja 4 88 [Z10]] (.sq [jc 7 176 [(cu 1)],ja 5 88 [Z10],js' 10 5 7] (.seq (.sq [jm 6 (ci 255)] (.block 0 Z0br)) (.sq [jl 27 10 true 5,js' 10 4 27] .ret))))⟩
theorem Z0o5:okF Tryz.prog 170 d170=true:=by kernel_rfl
def Z0bu:IC:=(.ops [jm 11 6,ji 12 32 1 5 11,js' 1 12 (c8 255)])
def Z0dz:IC:=(.seq (.sq [jm 7 6,jb 8 .lss 7 (ci 32)] (.cond 8 .skip (.exit 0))) (.seq (.block 1 Z0bu) (.ops [jm 9 6,jb 10 .add 9 (ci 1),jm 6 10])))
def Z0bt:IC:=(.loop Z0dz)
def d171:FnD:=⟨18,[.cell 4 32 true],(.sq [ja 4 22 [.ints .u8 32 (replicate 32 0)]] (.sq [ja 5 22 [.ints .u8 32 (replicate 32 0)]] (.seq (.sq [jm 6 (ci 0)] (.block 0 Z0bt)) (.sq [jm 13 0,ji 14 32 1 5 (ci 0),js' 1 14 13] (.sq [jm 15 1,ji 16 32 1 5 (ci 31),js' 1 16 15] (.sq [jl 17 32 true 5,js' 32 4 17] .ret))))))⟩
theorem Z0o6:okF Tryz.prog 171 d171=true:=by kernel_rfl
def Z0f8:Sch:=(.P 1 (jc 4 171 [(c8 235),(c8 127)]) (.Q 0 (jl 3 10 true 1) (.P 2 (jc 5 170 [3,4]) (.e 3 (jo' 10 2 5) .nil))))
def d102:FnD:=⟨6,[.cell 2 10 true],(.sq [jx 1 88 0,ja 2 88 [Z10]] (.seq (.draw Z0f8 [3]) .ret))⟩
theorem Z0mi:okF Tryz.prog 102 d102=true:=by kernel_rfl
def Z0f9:LJ:=[jm 10 4,jb 11 .quo 10 (ci 26),ji 12 10 1 1 11,jl 13 1 false 12,jm 14 4,jb 15 .rem 14 (ci 26),jb 16 .shr 13 15,jb 17 .and 16 (cu 1),jv 18 .u8 17,jm 5 18]
def Z0fa:Sch:=(.P 0 (jm 19 4) (.P 1 (jb 20 .quo 19 (ci 8)) (.P 2 (jm 21 4) (.P 3 (jb 22 .quo 21 (ci 8)) (.P 4 (ji 23 32 1 3 22) (.P 6 (jm 25 5) (.P 7 (jm 26 4) (.P 8 (jb 27 .rem 26 (ci 8)) (.P 9 (jb 28 .shl 25 27) (.Q 5 (jl 24 1 false 23) (.P 10 (jb 29 .add 24 28) (.P 11 (ji 30 32 1 3 20) (.e 12 (jo' 1 30 29) .nil)))))))))))))
def Z09j:IC:=(.sq Z0f9 (.draw Z0fa [12]))
def Z0cu:IC:=(.seq (.sq [jm 6 4,jb 7 .lss 6 (ci 255)] (.cond 7 .skip (.exit 0))) (.seq (.block 1 Z09j) (.ops [jm 8 4,jb 9 .add 8 (ci 1),jm 4 9])))
def Z09i:IC:=(.loop Z0cu)
def d103:FnD:=⟨32,[.cell 2 32 true],(.sq [jx 1 88 0,ja 2 22 [.ints .u8 32 (replicate 32 0)]] (.sq [ja 3 22 [.ints .u8 32 (replicate 32 0)]] (.seq (.sq [jm 4 (ci 0)] (.block 0 Z09i)) (.sq [jl 31 32 true 3,js' 32 2 31] .ret))))⟩
theorem Z0mj:okF Tryz.prog 103 d103=true:=by kernel_rfl
def d105:FnD:=⟨7,[.tmp 2],(.sq [jx 1 88 0,jm 2 (.const (.bool false))] (.sq [ji 3 10 1 1 (ci 0),jl 4 1 false 3,jb 5 .and 4 (cu 1),jb 6 .eql 5 (cu 1),jm 2 6] .ret))⟩
theorem Z0ml:okF Tryz.prog 105 d105=true:=by kernel_rfl
def Z0qg:LJ:=[jf 8 10 1,jl 9 10 true 8,jl 10 10 true 3,jc 11 104 [9,10],jc 12 103 [11],ja 4 22 [.ints .u8 32 (replicate 32 0)],js' 32 4 12]
def d54:FnD:=⟨23,[.cell 2 32 true],(.sq [jx 1 90 0,ja 2 29 [.ints .u8 32 (replicate 32 0)]] (.sq [jf 5 20 1,jl 6 10 true 5,jc 7 102 [6],ja 3 88 [Z10],js' 10 3 7] (.sq Z0qg (.seq (.sq [jf 13 0 1,jl 14 10 true 13,jl 15 10 true 3,jc 16 104 [14,15],jc 17 105 [16]] (.cond 17 (.ops [ji 18 32 1 4 (ci 31),jl 19 1 false 18,jb 20 .add 19 (c8 128),ji 21 32 1 4 (ci 31),js' 1 21 20]) .skip)) (.sq [jl 22 32 true 4,js' 32 2 22] .ret)))))⟩
theorem ok54:okF Tryz.prog 54 d54=true:=by kernel_rfl
def Z0ge:Sch:=(.P 0 (jc 3 198 []) (.Q 1 (jl 4 10 true 1) (.P 2 (jc 5 197 [3,4]) (.P 3 (jc 6 172 [5]) (.e 4 (jo' 10 2 6) .nil)))))
def d142:FnD:=⟨7,[.cell 2 10 true],(.sq [jx 1 88 0,ja 2 88 [Z10]] (.seq (.draw Z0ge [4]) .ret))⟩
theorem Z0ng:okF Tryz.prog 142 d142=true:=by kernel_rfl
def Z0hr:Sch:=(.P 0 (jm 10 5) (.P 1 (jm 11 5) (.P 2 (ji 12 10 1 2 11) (.P 4 (jm 14 5) (.P 5 (ji 15 10 1 3 14) (.Q 3 (jl 13 1 false 12) (.Q 6 (jl 16 1 false 15) (.P 7 (jb 17 .add 13 16) (.P 8 (ji 18 10 1 2 10) (.e 9 (jo' 1 18 17) .nil))))))))))
def Z0ca:IC:=(.draw Z0hr [9])
def Z0e7:IC:=(.seq (.sq [jm 6 5,jb 7 .lss 6 (ci 10)] (.cond 7 .skip (.exit 0))) (.seq (.block 1 Z0ca) (.ops [jm 8 5,jb 9 .add 8 (ci 1),jm 5 9])))
def Z0c9:IC:=(.loop Z0e7)
def d194:FnD:=⟨21,[.cell 4 10 true],(.sq [jx 2 88 0,jx 3 88 1,ja 4 88 [Z10]] (.seq (.sq [jm 5 (ci 0)] (.block 0 Z0c9)) (.sq [jl 19 10 true 2,jc 20 172 [19],js' 10 4 20] .ret)))⟩
theorem Z0op:okF Tryz.prog 194 d194=true:=by kernel_rfl
def Z0hq:Sch:=(.Q 0 (jl 5 10 true 2) (.Q 1 (jl 6 10 true 3) (.P 2 (jc 7 142 [6]) (.P 3 (jc 8 194 [5,7]) (.e 4 (jo' 10 4 8) .nil)))))
def d193:FnD:=⟨9,[.cell 4 10 true],(.sq [jx 2 88 0,jx 3 88 1,ja 4 88 [Z10]] (.seq (.draw Z0hq [4]) .ret))⟩
theorem Z0oo:okF Tryz.prog 193 d193=true:=by kernel_rfl
def Z0ga:LJ:=[jm 10 4,jb 11 .quo 10 (ci 8),ji 12 32 1 1 11,jl 13 1 false 12,jm 14 4,jb 15 .rem 14 (ci 8),jb 16 .shr 13 15,jb 17 .and 16 (c8 1),jv 18 .u64 17,jm 5 18]
def Z0gb:Sch:=(.P 0 (jm 19 4) (.P 1 (jb 20 .quo 19 (ci 26)) (.P 2 (jm 21 4) (.P 3 (jb 22 .quo 21 (ci 26)) (.P 4 (ji 23 10 1 3 22) (.P 6 (jm 25 5) (.P 7 (jm 26 4) (.P 8 (jb 27 .rem 26 (ci 26)) (.P 9 (jb 28 .shl 25 27) (.Q 5 (jl 24 1 false 23) (.P 10 (jb 29 .add 24 28) (.P 11 (ji 30 10 1 3 20) (.e 12 (jo' 1 30 29) .nil)))))))))))))
def Z0aq:IC:=(.sq Z0ga (.draw Z0gb [12]))
def Z0df:IC:=(.seq (.sq [jm 6 4,jb 7 .lss 6 (ci 255)] (.cond 7 .skip (.exit 0))) (.seq (.block 1 Z0aq) (.ops [jm 8 4,jb 9 .add 8 (ci 1),jm 4 9])))
def Z0ap:IC:=(.loop Z0df)
def d139:FnD:=⟨33,[.cell 2 10 true],(.sq [jx 1 22 0,ja 2 88 [Z10]] (.sq [ja 3 88 [Z10]] (.seq (.sq [jm 4 (ci 0)] (.block 0 Z0ap)) (.sq [jl 31 10 true 3,jc 32 172 [31],js' 10 2 32] .ret))))⟩
theorem Z0nd:okF Tryz.prog 139 d139=true:=by kernel_rfl
def Z0hs:LJ:=[jd 1 [.ints .u8 32 (replicate 32 0)] [(0,1,(c8 163)),(1,1,(c8 120)),(2,1,(c8 89)),(3,1,(c8 19)),(4,1,(c8 202)),(5,1,(c8 77)),(6,1,(c8 235)),(7,1,(c8 117)),(8,1,(c8 171)),(9,1,(c8 216)),(10,1,(c8 65)),(11,1,(c8 65)),(12,1,(c8 77)),(13,1,(c8 10)),(14,1,(c8 112)),(15,1,(c8 0)),(16,1,(c8 152)),(17,1,(c8 232)),(18,1,(c8 121)),(19,1,(c8 119)),(20,1,(c8 121)),(21,1,(c8 64)),(22,1,(c8 199)),(23,1,(c8 140)),(24,1,(c8 115)),(25,1,(c8 254)),(26,1,(c8 111)),(27,1,(c8 43)),(28,1,(c8 238)),(29,1,(c8 108)),(30,1,(c8 3)),(31,1,(c8 82))],jc 2 139 [1],js' 10 0 2]
def d195:FnD:=⟨3,[.cell 0 10 true],(.sq [ja 0 88 [Z10]] (.sq Z0hs .ret))⟩
theorem Z0oq:okF Tryz.prog 195 d195=true:=by kernel_rfl
def Z0gh:Sch:=(.P 0 (jc 33 195 []) (.Q 1 (jl 34 10 true 7) (.Q 2 (jl 35 10 true 8) (.P 3 (jc 36 104 [34,35]) (.P 4 (jc 37 104 [33,36]) (.e 5 (oi 9 (.al 88 [Z10])) (.e 6 (jo' 10 9 37) .nil)))))))
def Z0gi:Sch:=(.P 0 (jf 44 0 2) (.P 2 (jf 46 10 3) (.P 5 (jf 49 10 2) (.P 7 (jf 51 0 3) (.Q 1 (jl 45 10 true 44) (.Q 3 (jl 47 10 true 46) (.P 4 (jc 48 104 [45,47]) (.Q 6 (jl 50 10 true 49) (.Q 8 (jl 52 10 true 51) (.P 9 (jc 53 104 [50,52]) (.P 10 (jc 54 194 [48,53]) (.e 11 (oi 12 (.al 88 [Z10])) (.e 12 (jo' 10 12 54) .nil)))))))))))))
def Z0gj:Sch:=(.Q 0 (jl 55 10 true 5) (.Q 1 (jl 56 10 true 10) (.P 2 (jc 57 104 [55,56]) (.Q 3 (jl 58 10 true 12) (.P 4 (jc 59 104 [57,58]) (.e 5 (oi 13 (.al 88 [Z10])) (.e 6 (jo' 10 13 59) .nil)))))))
def Z073:Sch:=(.Q 0 (jl 60 10 true 5) (.Q 1 (jl 61 10 true 11) (.P 2 (jc 62 104 [60,61]) (.Q 3 (jl 63 10 true 8) (.Q 4 (jl 64 10 true 7) (.P 5 (jc 65 194 [63,64]) (.P 6 (jc 66 104 [62,65]) (.e 7 (oi 14 (.al 88 [Z10])) (.e 8 (jo' 10 14 66) .nil)))))))))
def Z074:Sch:=(.Q 0 (jl 67 10 true 13) (.Q 1 (jl 68 10 true 14) (.Q 2 (jl 69 10 true 10) (.Q 3 (jl 70 10 true 11) (.P 4 (jc 71 104 [69,70]) (.P 5 (jd 72 [Z10,Z10,Z10] [(0,10,67),(10,10,68),(20,10,71)]) (.e 6 (jo' 30 4 72) .nil)))))))
def d146:FnD:=⟨73,[.cell 4 30 true],(.sq [jx 2 90 0,jx 3 90 1,ja 4 90 [Z10,Z10,Z10]] (.sq [jf 15 20 2,jl 16 10 true 15,jf 17 20 3,jl 18 10 true 17,jc 19 104 [16,18],ja 5 88 [Z10],js' 10 5 19] (.sq [jl 20 10 true 5,jl 21 10 true 5,jc 22 104 [20,21],ja 6 88 [Z10],js' 10 6 22] (.sq [jf 23 0 2,jl 24 10 true 23,jf 25 0 3,jl 26 10 true 25,jc 27 104 [24,26],ja 7 88 [Z10],js' 10 7 27] (.sq [jf 28 10 2,jl 29 10 true 28,jf 30 10 3,jl 31 10 true 30,jc 32 104 [29,31],ja 8 88 [Z10],js' 10 8 32] (.seq (.draw Z0gh [6]) (.sq [jl 38 10 true 6,jl 39 10 true 9,jc 40 193 [38,39],ja 10 88 [Z10],js' 10 10 40] (.sq [jl 41 10 true 6,jl 42 10 true 9,jc 43 194 [41,42],ja 11 88 [Z10],js' 10 11 43] (.seq (.draw Z0gi [12]) (.seq (.draw Z0gj [6]) (.seq (.draw Z073 [8]) (.seq (.draw Z074 [6]) .ret))))))))))))⟩
theorem Z0nk:okF Tryz.prog 146 d146=true:=by kernel_rfl
def Z0h9:LJ:=[jc 1 176 [(cu 0)],jc 2 176 [(cu 1)],jc 3 176 [(cu 1)],jd 4 [Z10,Z10,Z10] [(0,10,1),(10,10,2),(20,10,3)],js' 30 0 4]
def d174:FnD:=⟨5,[.cell 0 30 true],(.sq [ja 0 90 [Z10,Z10,Z10]] (.sq Z0h9 .ret))⟩
theorem Z0o9:okF Tryz.prog 174 d174=true:=by kernel_rfl
def Z0h8:Sch:=(.P 0 (jm 11 4) (.P 1 (jm 12 4) (.P 2 (jb 13 .sub 12 (ci 1)) (.P 3 (ji 14 16 30 3 13) (.Q 4 (jl 15 30 true 14) (.Q 5 (jl 16 30 true 1) (.P 6 (jc 17 146 [15,16]) (.P 7 (ji 18 16 30 3 11) (.e 8 (jo' 30 18 17) .nil)))))))))
def Z0by:IC:=(.draw Z0h8 [8])
def Z0e1:IC:=(.seq (.sq [jm 7 4,jb 8 .lss 7 (ci 16)] (.cond 8 .skip (.exit 0))) (.seq (.block 1 Z0by) (.ops [jm 9 4,jb 10 .add 9 (ci 1),jm 4 10])))
def Z0bx:IC:=(.loop Z0e1)
def d173:FnD:=⟨20,[.cell 2 480 true],(.sq [jx 1 90 0,ja 2 206 [.rows 30 16 (fun _=>cells [Z10,Z10,Z10])]] (.sq [ja 3 206 [.rows 30 16 (fun _=>cells [Z10,Z10,Z10])]] (.sq [jc 5 174 [],ji 6 16 30 3 (ci 0),js' 30 6 5] (.seq (.sq [jm 4 (ci 1)] (.block 0 Z0bx)) (.sq [jl 19 480 true 3,js' 480 2 19] .ret)))))⟩
theorem Z0o8:okF Tryz.prog 173 d173=true:=by kernel_rfl
def Z0ha:Sch:=(.Q 0 (jl 29 10 true 5) (.Q 1 (jl 30 10 true 5) (.P 2 (jc 31 194 [29,30]) (.Q 3 (jl 32 10 true 6) (.P 4 (jc 33 193 [31,32]) (.e 5 (oi 7 (.al 88 [Z10])) (.e 6 (jo' 10 7 33) .nil)))))))
def Z0hb:Sch:=(.Q 0 (jl 39 10 true 8) (.Q 1 (jl 40 10 true 8) (.P 2 (jc 41 194 [39,40]) (.Q 3 (jl 42 10 true 7) (.P 4 (jc 43 104 [41,42]) (.e 5 (oi 9 (.al 88 [Z10])) (.e 6 (jo' 10 9 43) .nil)))))))
def Z0hc:Sch:=(.Q 0 (jl 44 10 true 3) (.Q 1 (jl 45 10 true 4) (.P 2 (jc 46 194 [44,45]) (.Q 3 (jl 47 10 true 6) (.P 4 (jc 48 104 [46,47]) (.e 5 (oi 10 (.al 88 [Z10])) (.e 6 (jo' 10 10 48) .nil)))))))
def Z0hd:Sch:=(.Q 0 (jl 49 10 true 9) (.Q 1 (jl 50 10 true 10) (.Q 2 (jl 51 10 true 6) (.Q 3 (jl 52 10 true 7) (.P 4 (jc 53 104 [51,52]) (.P 5 (jd 54 [Z10,Z10,Z10] [(0,10,49),(10,10,50),(20,10,53)]) (.e 6 (jo' 30 2 54) .nil)))))))
def d175:FnD:=⟨55,[.cell 2 30 true],(.sq [jx 1 90 0,ja 2 90 [Z10,Z10,Z10]] (.sq [jf 11 0 1,jl 12 10 true 11,jf 13 0 1,jl 14 10 true 13,jc 15 104 [12,14],ja 3 88 [Z10],js' 10 3 15] (.sq [jf 16 10 1,jl 17 10 true 16,jf 18 10 1,jl 19 10 true 18,jc 20 104 [17,19],ja 4 88 [Z10],js' 10 4 20] (.sq [jf 21 20 1,jl 22 10 true 21,jf 23 20 1,jl 24 10 true 23,jc 25 104 [22,24],ja 5 88 [Z10],js' 10 5 25] (.sq [jl 26 10 true 4,jl 27 10 true 3,jc 28 193 [26,27],ja 6 88 [Z10],js' 10 6 28] (.seq (.draw Z0ha [6]) (.sq [jf 34 0 1,jl 35 10 true 34,jf 36 10 1,jl 37 10 true 36,jc 38 104 [35,37],ja 8 88 [Z10],js' 10 8 38] (.seq (.draw Z0hb [6]) (.seq (.draw Z0hc [6]) (.seq (.draw Z0hd [6]) .ret))))))))))⟩
theorem Z0oa:okF Tryz.prog 175 d175=true:=by kernel_rfl
def Z0fc:Sch:=(.P 5 (jm 20 7) (.P 6 (ji 21 32 1 2 20) (.Q 0 (jl 15 30 true 6) (.P 1 (jc 16 175 [15]) (.P 2 (jc 17 175 [16]) (.P 3 (jc 18 175 [17]) (.P 4 (jc 19 175 [18]) (.Q 7 (jl 22 1 false 21) (.P 8 (jb 23 .quo 22 (c8 16)) (.P 9 (ji 24 16 30 5 23) (.Q 10 (jl 25 30 true 24) (.P 11 (jc 26 146 [19,25]) (.e 12 (jo' 30 6 26) .nil)))))))))))))
def Z0fd:Sch:=(.P 5 (jm 32 7) (.P 6 (ji 33 32 1 2 32) (.Q 0 (jl 27 30 true 6) (.P 1 (jc 28 175 [27]) (.P 2 (jc 29 175 [28]) (.P 3 (jc 30 175 [29]) (.P 4 (jc 31 175 [30]) (.Q 7 (jl 34 1 false 33) (.P 8 (jb 35 .rem 34 (c8 16)) (.P 9 (ji 36 16 30 5 35) (.Q 10 (jl 37 30 true 36) (.P 11 (jc 38 146 [31,37]) (.e 12 (jo' 30 6 38) .nil)))))))))))))
def Z09t:IC:=(.seq (.draw Z0fc [12]) (.draw Z0fd [12]))
def Z0cz:IC:=(.seq (.sq [jm 11 7,jb 12 .geq 11 (ci 0)] (.cond 12 .skip (.exit 0))) (.seq (.block 1 Z09t) (.ops [jm 13 7,jb 14 .sub 13 (ci 1),jm 7 14])))
def Z09s:IC:=(.loop Z0cz)
def d106:FnD:=⟨40,[.cell 4 30 true],(.sq [jx 2 74 0,jx 3 90 1,ja 4 90 [Z10,Z10,Z10]] (.sq [jl 8 30 true 3,jc 9 173 [8],ja 5 206 [.rows 30 16 (fun _=>cells [Z10,Z10,Z10])],js' 480 5 9] (.sq [jc 10 174 [],ja 6 90 [Z10,Z10,Z10],js' 30 6 10] (.seq (.sq [jm 7 (ci 31)] (.block 0 Z09s)) (.sq [jl 39 30 true 6,js' 30 4 39] .ret)))))⟩
theorem Z0mm:okF Tryz.prog 106 d106=true:=by kernel_rfl
def d141:FnD:=⟨6,[.tmp 2],(.sq [jx 1 88 0,jm 2 (.const (.bool false))] (.sq [jl 3 10 true 1,jd 4 [Z10] [],oj 5 (.eqa false [(.i .u64,10)] 3 4),jm 2 5] .ret))⟩
theorem Z0nf:okF Tryz.prog 141 d141=true:=by kernel_rfl
def d217:FnD:=⟨8,[.cell 2 10 true],(.sq [jx 1 88 0,ja 2 88 [Z10]] (.seq (.sq [jl 3 10 true 1,jc 4 105 [3]] (.cond 4 (.sq [jl 5 10 true 1,jc 6 142 [5],js' 10 2 6] .ret) .skip)) (.sq [jl 7 10 true 1,js' 10 2 7] .ret)))⟩
theorem Z0p8:okF Tryz.prog 217 d217=true:=by kernel_rfl
def Z0ht:Sch:=(.Q 0 (jl 13 10 true 2) (.Q 1 (jl 14 10 true 3) (.P 2 (jc 15 102 [14]) (.P 3 (jc 16 104 [13,15]) (.e 4 (oi 6 (.al 88 [Z10])) (.e 5 (jo' 10 6 16) .nil))))))
def Z0hu:Sch:=(.P 1 (jc 18 171 [(c8 254),(c8 15)]) (.Q 0 (jl 17 10 true 6) (.P 2 (jc 19 170 [17,18]) (.e 3 (oi 7 (.al 88 [Z10])) (.e 4 (jo' 10 7 19) .nil)))))
def Z0hv:Sch:=(.Q 0 (jl 20 10 true 7) (.Q 1 (jl 21 10 true 7) (.P 2 (jc 22 104 [20,21]) (.Q 3 (jl 23 10 true 6) (.P 4 (oj 24 (.eqa false [(.i .u64,10)] 22 23)) .nil)))))
def Z0hw:Sch:=(.P 1 (jc 28 176 [(cu 2)]) (.P 2 (jc 29 171 [(c8 251),(c8 31)]) (.P 3 (jc 30 170 [28,29]) (.Q 0 (jl 27 10 true 7) (.P 4 (jc 31 104 [27,30]) (.e 5 (jo' 10 7 31) .nil))))))
def Z0hx:Sch:=(.Q 0 (jl 32 10 true 7) (.Q 1 (jl 33 10 true 7) (.P 2 (jc 34 104 [32,33]) (.Q 3 (jl 35 10 true 6) (.P 4 (oj 36 (.eqa false [(.i .u64,10)] 34 35)) .nil)))))
def d196:FnD:=⟨40,[.cell 4 10 true,.tmp 5],(.sq [jx 2 88 0,jx 3 88 1,ja 4 88 [Z10],jm 5 (.const (.bool false))] (.seq (.sq [jl 8 10 true 3,jc 9 141 [8]] (.cond 9 (.sq [jd 10 [Z10] [],jl 11 10 true 2,jc 12 141 [11],js' 10 4 10,jm 5 12] .ret) .skip)) (.seq (.draw Z0ht [5]) (.seq (.draw Z0hu [4]) (.seq (.seq (.draw Z0hv []) (.cond 24 (.sq [jl 25 10 true 7,jc 26 217 [25],js' 10 4 26,jm 5 (.const (.bool true))] .ret) .skip)) (.seq (.draw Z0hw [5]) (.seq (.seq (.draw Z0hx []) (.cond 36 (.sq [jl 37 10 true 7,jc 38 217 [37],js' 10 4 38,jm 5 (.const (.bool true))] .ret) .skip)) (.sq [jd 39 [Z10] [],js' 10 4 39,jm 5 (.const (.bool false))] .ret))))))))⟩
theorem Z0or:okF Tryz.prog 196 d196=true:=by kernel_rfl
def Z0gc:Sch:=(.P 1 (jc 11 176 [(cu 1)]) (.Q 0 (jl 10 10 true 4) (.P 2 (jc 12 193 [10,11]) (.e 3 (oi 5 (.al 88 [Z10])) (.e 4 (jo' 10 5 12) .nil)))))
def Z0gd:Sch:=(.P 0 (jc 13 195 []) (.Q 1 (jl 14 10 true 4) (.P 2 (jc 15 104 [13,14]) (.P 3 (jc 16 176 [(cu 1)]) (.P 4 (jc 17 194 [15,16]) (.e 5 (oi 6 (.al 88 [Z10])) (.e 6 (jo' 10 6 17) .nil)))))))
def d140:FnD:=⟨23,[.cell 2 10 true,.tmp 3],(.sq [jx 1 88 0,ja 2 88 [Z10],jm 3 (.const (.bool false))] (.sq [jl 7 10 true 1,jl 8 10 true 1,jc 9 104 [7,8],ja 4 88 [Z10],js' 10 4 9] (.seq (.draw Z0gc [4]) (.seq (.draw Z0gd [6]) (.sq [jl 18 10 true 5,jl 19 10 true 6,jc 20 196 [18,19],je 21 20 0,je 22 20 1,js' 10 2 21,jm 3 22] .ret)))))⟩
theorem Z0ne:okF Tryz.prog 140 d140=true:=by kernel_rfl
def Z0gf:Sch:=(.P 2 (jc 7 176 [(cu 1)]) (.Q 0 (jl 5 10 true 2) (.Q 1 (jl 6 10 true 3) (.P 3 (jd 8 [Z10,Z10,Z10] [(0,10,5),(10,10,6),(20,10,7)]) (.e 4 (jo' 30 4 8) .nil)))))
def d143:FnD:=⟨9,[.cell 4 30 true],(.sq [jx 2 88 0,jx 3 88 1,ja 4 90 [Z10,Z10,Z10]] (.seq (.draw Z0gf [4]) .ret))⟩
theorem Z0nh:okF Tryz.prog 143 d143=true:=by kernel_rfl
def d107:FnD:=⟨16,[.cell 0 30 true],(.sq [ja 0 90 [Z10,Z10,Z10]] (.sq [jc 4 176 [(cu 4)],jc 5 176 [(cu 5)],jc 6 102 [5],jc 7 104 [4,6],ja 1 88 [Z10],js' 10 1 7] (.sq [jl 9 10 true 1,jc 10 140 [9],jm 8 10,je 11 8 0,je 12 8 1,ja 2 88 [Z10],js' 10 2 11,jm 3 12] (.sq [jl 13 10 true 2,jl 14 10 true 1,jc 15 143 [13,14],js' 30 0 15] .ret))))⟩
theorem Z0mn:okF Tryz.prog 107 d107=true:=by kernel_rfl
def Z0qh:Sch:=(.P 1 (jc 4 107 []) (.Q 0 (jl 3 32 true 1) (.P 2 (jc 5 106 [3,4]) (.e 3 (jo' 30 2 5) .nil))))
def d55:FnD:=⟨6,[.cell 2 30 true],(.sq [jx 1 74 0,ja 2 90 [Z10,Z10,Z10]] (.seq (.draw Z0qh [3]) .ret))⟩
theorem ok55:okF Tryz.prog 55 d55=true:=by kernel_rfl
def Z0ku:IC:=(.sq [jm 11 6,jm 12 6,ji 13 64 1 2 12,jl 14 1 false 13,ji 15 32 1 5 11,js' 1 15 14] (.sq [jm 16 1] (.cond 16 (.ops [jm 17 6,jm 18 6,jb 19 .add (ci 32) 18,ji 20 64 1 2 19,jl 21 1 false 20,ji 22 32 1 5 17,js' 1 22 21]) .skip)))
def Z0m0:IC:=(.seq (.sq [jm 7 6,jb 8 .lss 7 (ci 32)] (.cond 8 .skip (.exit 0))) (.seq (.block 1 Z0ku) (.ops [jm 9 6,jb 10 .add 9 (ci 1),jm 6 10])))
def Z0kt:IC:=(.loop Z0m0)
def d57:FnD:=⟨24,[.cell 4 32 true],(.sq [jx 2 94 0,ja 4 22 [.ints .u8 32 (replicate 32 0)]] (.sq [ja 5 22 [.ints .u8 32 (replicate 32 0)]] (.seq (.sq [jm 6 (ci 0)] (.block 0 Z0kt)) (.sq [jl 23 32 true 5,js' 32 4 23] .ret))))⟩
theorem ok57:okF Tryz.prog 57 d57=true:=by kernel_rfl
def Z0fh:LJ:=[jm 14 3,jm 15 0,jm 16 5,jb 17 .shr 15 16,jv 18 .u8 17,oj 19 (.bs 5 1 1 [.one (.int .u8 0)] [(0,1,18)]),oj 20 (.app 5 1 1 [.one (.int .u8 0)] 14 19),jm 3 20]
def Z0a1:IC:=(.sq [jm 10 4,jb 11 .mul (ci 8) 10,jb 12 .sub (ci 56) 11,jv 13 .u64 12,jm 5 13] (.ops Z0fh))
def Z0d3:IC:=(.seq (.sq [jm 6 4,jb 7 .lss 6 (ci 8)] (.cond 7 .skip (.exit 0))) (.seq (.block 1 Z0a1) (.ops [jm 8 4,jb 9 .add 8 (ci 1),jm 4 9])))
def Z0a0:IC:=(.loop Z0d3)
def d111:FnD:=⟨22,[.tmp 2],(.sq [jm 2 (.const (.slice none 0 0))] (.sq [jm 3 (.const (.slice none 0 0))] (.seq (.sq [jm 4 (ci 0)] (.block 0 Z0a0)) (.sq [jm 21 3,jm 2 21] .ret))))⟩
theorem Z0mq:okF Tryz.prog 111 d111=true:=by kernel_rfl
def Z0fe:LJ:=[jm 16 3,oj 17 (.bs 5 1 1 [.one (.int .u8 0)] [(0,1,(c8 0))]),oj 18 (.app 5 1 1 [.one (.int .u8 0)] 16 17),jm 3 18]
def Z09v:IC:=(.ops Z0fe)
def Z0d0:IC:=(.seq (.sq [jm 9 4,jm 10 3,jn' 11 10,jb 12 .add 9 11,jb 13 .add 12 (ci 16),jb 14 .rem 13 (ci 128),jb 15 .neq 14 (ci 0)] (.cond 15 .skip (.exit 0))) (.block 1 Z09v))
def Z09u:IC:=(.loop Z0d0)
def Z0ff:LJ:=[jm 19 3,jm 20 0,jb 21 .quo 20 (cu 2305843009213693952),jc 22 111 [21],oj 23 (.app 5 1 1 [.one (.int .u8 0)] 19 22),jm 3 23]
def d109:FnD:=⟨29,[.tmp 2],(.sq [jm 2 (.const (.slice none 0 0))] (.sq [oj 5 (.bs 5 1 1 [.one (.int .u8 0)] [(0,1,(c8 128))]),jm 3 5] (.sq [jm 6 0,jb 7 .rem 6 (cu 128),jv 8 .i64 7,jm 4 8] (.seq (.block 0 Z09u) (.sq Z0ff (.sq [jm 24 3,jm 25 0,jb 26 .mul 25 (cu 8),jc 27 111 [26],oj 28 (.app 5 1 1 [.one (.int .u8 0)] 24 27),jm 2 28] .ret))))))⟩
theorem Z0mo:okF Tryz.prog 109 d109=true:=by kernel_rfl
def Z0i8:LJ:=[jm 9 3,jb 10 .mul 9 (cu 256),jm 11 0,jm 12 4,ji' 13 1 11 12,jl 14 1 false 13,jv 15 .u64 14,jb 16 .add 10 15,jm 3 16]
def Z0cq:IC:=(.ops Z0i8)
def Z0ef:IC:=(.seq (.sq [jm 5 4,jb 6 .lss 5 (ci 8)] (.cond 6 .skip (.exit 0))) (.seq (.block 1 Z0cq) (.ops [jm 7 4,jb 8 .add 7 (ci 1),jm 4 8])))
def Z0cp:IC:=(.loop Z0ef)
def d209:FnD:=⟨18,[.tmp 2],(.sq [jm 2 (cu 0)] (.sq [jm 3 (cu 0)] (.seq (.sq [jm 4 (ci 0)] (.block 0 Z0cp)) (.sq [jm 17 3,jm 2 17] .ret))))⟩
theorem Z0p4:okF Tryz.prog 209 d209=true:=by kernel_rfl
def d212:FnD:=⟨13,[.tmp 4],(.sq [jm 4 (cu 0)] (.sq [jm 5 0,jm 6 1,jb 7 .shr 5 6,jm 8 0,jm 9 1,jb 10 .sub (cu 64) 9,jb 11 .shl 8 10,jb 12 .or 7 11,jm 4 12] .ret))⟩
theorem Z0p7:okF Tryz.prog 212 d212=true:=by kernel_rfl
def Z0i9:LJ:=[jm 3 0,jc 4 212 [3,(cu 19)],jm 5 0,jc 6 212 [5,(cu 61)],jb 7 .xor 4 6,jm 8 0,jb 9 .shr 8 (cu 6),jb 10 .xor 7 9,jm 2 10]
def d210:FnD:=⟨11,[.tmp 2],(.sq [jm 2 (cu 0)] (.sq Z0i9 .ret))⟩
theorem Z0p5:okF Tryz.prog 210 d210=true:=by kernel_rfl
def Z0ia:LJ:=[jm 3 0,jc 4 212 [3,(cu 1)],jm 5 0,jc 6 212 [5,(cu 8)],jb 7 .xor 4 6,jm 8 0,jb 9 .shr 8 (cu 7),jb 10 .xor 7 9,jm 2 10]
def d211:FnD:=⟨11,[.tmp 2],(.sq [jm 2 (cu 0)] (.sq Z0ia .ret))⟩
theorem Z0p6:okF Tryz.prog 211 d211=true:=by kernel_rfl
def Z0hf:LJ:=[jm 10 3,jm 11 0,jm 12 4,jb 13 .mul (ci 8) 12,jm 14 4,jb 15 .mul (ci 8) 14,jb 16 .add 15 (ci 8),oj 17 (.sls 1 11 (some 13) (some 16) none),jc 18 209 [17],oj 19 (.bs 78 1 1 [.one (.int .u64 0)] [(0,1,18)]),oj 20 (.app 78 1 8 [.one (.int .u64 0)] 10 19),jm 3 20]
def Z0c0:IC:=(.ops Z0hf)
def Z0e2:IC:=(.seq (.sq [jm 6 4,jb 7 .lss 6 (ci 16)] (.cond 7 .skip (.exit 0))) (.seq (.block 1 Z0c0) (.ops [jm 8 4,jb 9 .add 8 (ci 1),jm 4 9])))
def Z0bz:IC:=(.loop Z0e2)
def Z0hg:Sch:=(.P 0 (jm 25 3) (.P 1 (jm 26 3) (.P 2 (jm 27 5) (.P 3 (jb 28 .sub 27 (ci 2)) (.P 4 (ji' 29 1 26 28) (.P 7 (jm 32 3) (.P 8 (jm 33 5) (.P 9 (jb 34 .sub 33 (ci 7)) (.P 10 (ji' 35 1 32 34) (.P 13 (jm 38 3) (.P 14 (jm 39 5) (.P 15 (jb 40 .sub 39 (ci 15)) (.P 16 (ji' 41 1 38 40) (.P 20 (jm 45 3) (.P 21 (jm 46 5) (.P 22 (jb 47 .sub 46 (ci 16)) (.P 23 (ji' 48 1 45 47) (.Q 5 (jl 30 1 false 29) (.P 6 (jc 31 210 [30]) (.Q 11 (jl 36 1 false 35) (.P 12 (jb 37 .add 31 36) (.Q 17 (jl 42 1 false 41) (.P 18 (jc 43 211 [42]) (.P 19 (jb 44 .add 37 43) (.Q 24 (jl 49 1 false 48) (.P 25 (jb 50 .add 44 49) (.e 26 (oi 51 (.bs 78 1 1 [.one (.int .u64 0)] [(0,1,50)])) (.e 27 (oi 52 (.app 78 1 8 [.one (.int .u64 0)] 25 51)) (.P 28 (jm 3 52) .nil)))))))))))))))))))))))))))))
def Z0c2:IC:=(.draw Z0hg [27])
def Z0e3:IC:=(.seq (.sq [jm 21 5,jb 22 .lss 21 (ci 80)] (.cond 22 .skip (.exit 2))) (.seq (.block 3 Z0c2) (.ops [jm 23 5,jb 24 .add 23 (ci 1),jm 5 24])))
def Z0c1:IC:=(.loop Z0e3)
def d177:FnD:=⟨54,[.tmp 2],(.sq [jm 2 (.const (.slice none 0 0))] (.sq [jm 3 (.const (.slice none 0 0))] (.seq (.sq [jm 4 (ci 0)] (.block 0 Z0bz)) (.seq (.sq [jm 5 (ci 16)] (.block 2 Z0c1)) (.sq [jm 53 3,jm 2 53] .ret)))))⟩
theorem Z0oc:okF Tryz.prog 177 d177=true:=by kernel_rfl
def Z0hh:LJ:=[jm 17 7,ji 18 8 1 3 (ci 5),jl 19 1 false 18,jb 20 .and 17 19,jm 21 7,oj 22 (.un .xor 21),ji 23 8 1 3 (ci 6),jl 24 1 false 23,jb 25 .and 22 24,jb 26 .xor 20 25,jm 9 26]
def Z0hi:LJ:=[jm 27 8,ji 28 8 1 3 (ci 1),jl 29 1 false 28,jb 30 .and 27 29,jm 31 8,ji 32 8 1 3 (ci 2),jl 33 1 false 32,jb 34 .and 31 33,jb 35 .xor 30 34,ji 36 8 1 3 (ci 1),jl 37 1 false 36,ji 38 8 1 3 (ci 2),jl 39 1 false 38,jb 40 .and 37 39,jb 41 .xor 35 40,jm 10 41]
def Z0hj:Sch:=(.P 0 (ji 42 8 1 3 (ci 7)) (.P 2 (jm 44 7) (.P 3 (jc 45 212 [44,(cu 14)]) (.P 4 (jm 46 7) (.P 5 (jc 47 212 [46,(cu 18)]) (.P 6 (jb 48 .xor 45 47) (.P 7 (jm 49 7) (.P 8 (jc 50 212 [49,(cu 41)]) (.P 9 (jb 51 .xor 48 50) (.P 11 (jm 53 9) (.P 13 (jm 55 1) (.P 15 (jm 57 2) (.Q 1 (jl 43 1 false 42) (.P 10 (jb 52 .add 43 51) (.P 12 (jb 54 .add 52 53) (.P 14 (jb 56 .add 54 55) (.P 16 (jb 58 .add 56 57) (.P 17 (jm 11 58) .nil))))))))))))))))))
def Z0hk:LJ:=[jm 59 8,jc 60 212 [59,(cu 28)],jm 61 8,jc 62 212 [61,(cu 34)],jb 63 .xor 60 62,jm 64 8,jc 65 212 [64,(cu 39)],jb 66 .xor 63 65,jm 67 10,jb 68 .add 66 67,jm 12 68]
def Z0hl:LJ:=[jm 69 11,jm 70 12,jb 71 .add 69 70,ji 72 8 1 3 (ci 0),jl 73 1 false 72,ji 74 8 1 3 (ci 1),jl 75 1 false 74,ji 76 8 1 3 (ci 2),jl 77 1 false 76,ji 78 8 1 3 (ci 3),jl 79 1 false 78,jm 80 11,jb 81 .add 79 80,ji 82 8 1 3 (ci 4),jl 83 1 false 82,ji 84 8 1 3 (ci 5),jl 85 1 false 84,ji 86 8 1 3 (ci 6),jl 87 1 false 86,jd 88 [.ints .u64 8 (replicate 8 0)] [(0,1,71),(1,1,73),(2,1,75),(3,1,77),(4,1,81),(5,1,83),(6,1,85),(7,1,87)],js' 8 6 88]
def d178:FnD:=⟨89,[.cell 6 8 true],(.sq [jx 3 144 0,ja 6 144 [.ints .u64 8 (replicate 8 0)]] (.sq [ji 13 8 1 3 (ci 4),jl 14 1 false 13,jm 7 14] (.sq [ji 15 8 1 3 (ci 0),jl 16 1 false 15,jm 8 16] (.sq Z0hh (.sq Z0hi (.seq (.draw Z0hj []) (.sq Z0hk (.sq Z0hl .ret))))))))⟩
theorem Z0od:okF Tryz.prog 178 d178=true:=by kernel_rfl
def Z0fg:Sch:=(.P 1 (jm 17 7) (.P 2 (ji 18 80 1 (.global 3) 17) (.P 4 (jm 20 5) (.P 5 (jm 21 7) (.P 6 (ji' 22 1 20 21) (.Q 0 (jl 16 8 true 6) (.Q 3 (jl 19 1 false 18) (.Q 7 (jl 23 1 false 22) (.P 8 (jc 24 178 [16,19,23]) (.e 9 (jo' 8 6 24) .nil))))))))))
def Z09x:IC:=(.draw Z0fg [9])
def Z0d1:IC:=(.seq (.sq [jm 12 7,jb 13 .lss 12 (ci 80)] (.cond 13 .skip (.exit 0))) (.seq (.block 1 Z09x) (.ops [jm 14 7,jb 15 .add 14 (ci 1),jm 7 15])))
def Z09w:IC:=(.loop Z0d1)
def Z06z:Sch:=(.P 0 (jm 29 8) (.P 1 (jm 30 8) (.P 2 (ji 31 8 1 6 30) (.P 4 (jm 33 8) (.P 5 (ji 34 8 1 2 33) (.Q 3 (jl 32 1 false 31) (.Q 6 (jl 35 1 false 34) (.P 7 (jb 36 .add 32 35) (.P 8 (ji 37 8 1 6 29) (.e 9 (jo' 1 37 36) .nil))))))))))
def Z09z:IC:=(.draw Z06z [9])
def Z0d2:IC:=(.seq (.sq [jm 25 8,jb 26 .lss 25 (ci 8)] (.cond 26 .skip (.exit 2))) (.seq (.block 3 Z09z) (.ops [jm 27 8,jb 28 .add 27 (ci 1),jm 8 28])))
def Z09y:IC:=(.loop Z0d2)
def d110:FnD:=⟨39,[.cell 4 8 true],(.sq [jx 2 144 0,ja 4 144 [.ints .u64 8 (replicate 8 0)]] (.sq [jm 9 1,jc 10 177 [9],jm 5 10] (.sq [jl 11 8 true 2,ja 6 144 [.ints .u64 8 (replicate 8 0)],js' 8 6 11] (.seq (.sq [jm 7 (ci 0)] (.block 0 Z09w)) (.seq (.sq [jm 8 (ci 0)] (.block 2 Z09y)) (.sq [jl 38 8 true 6,js' 8 4 38] .ret))))))⟩
theorem Z0mp:okF Tryz.prog 110 d110=true:=by kernel_rfl
def Z0qi:Sch:=(.P 1 (jm 27 3) (.P 2 (jm 28 5) (.P 3 (jm 29 5) (.P 4 (jb 30 .add 29 (ci 128)) (.P 5 (oj 31 (.sls 1 27 (some 28) (some 30) none)) (.Q 0 (jl 26 8 true 4) (.Q 6 (jc 32 110 [26,31]) (.e 7 (jo' 8 4 32) .nil))))))))
def Z0kw:IC:=(.draw Z0qi [7])
def Z0m1:IC:=(.seq (.sq [jm 20 5,jm 21 3,jn' 22 21,jb 23 .lss 20 22] (.cond 23 .skip (.exit 0))) (.seq (.block 1 Z0kw) (.ops [jm 24 5,jb 25 .add 24 (ci 128),jm 5 25])))
def Z0kv:IC:=(.loop Z0m1)
def Z0ii:LJ:=[jm 45 7,jb 46 .mul (ci 8) 45,jm 47 9,jb 48 .add 46 47,jm 49 8,jm 50 9,ji' 51 1 49 50,jl 52 1 false 51,ji 53 64 1 6 48,js' 1 53 52]
def Z0l0:IC:=(.ops Z0ii)
def Z0m3:IC:=(.seq (.sq [jm 41 9,jb 42 .lss 41 (ci 8)] (.cond 42 .skip (.exit 4))) (.seq (.block 5 Z0l0) (.ops [jm 43 9,jb 44 .add 43 (ci 1),jm 9 44])))
def Z0kz:IC:=(.loop Z0m3)
def Z0ky:IC:=(.sq [jm 37 7,ji 38 8 1 4 37,jl 39 1 false 38,jc 40 111 [39],jm 8 40] (.sq [jm 9 (ci 0)] (.block 4 Z0kz)))
def Z0m2:IC:=(.seq (.sq [jm 33 7,jb 34 .lss 33 (ci 8)] (.cond 34 .skip (.exit 2))) (.seq (.block 3 Z0ky) (.ops [jm 35 7,jb 36 .add 35 (ci 1),jm 7 36])))
def Z0kx:IC:=(.loop Z0m2)
def d58:FnD:=⟨55,[.cell 2 64 true],(.sq [ja 2 94 [.ints .u8 64 (replicate 64 0)]] (.sq [jm 3 (.const (.slice none 0 0))] (.sq [jm 10 3,jm 11 0,oj 12 (.app 5 1 1 [.one (.int .u8 0)] 10 11),jm 3 12] (.sq [jm 13 3,jm 14 0,jn' 15 14,jv 16 .u64 15,jc 17 109 [16],oj 18 (.app 5 1 1 [.one (.int .u8 0)] 13 17),jm 3 18] (.sq [jl 19 8 true (.global 0),ja 4 144 [.ints .u64 8 (replicate 8 0)],js' 8 4 19] (.seq (.sq [jm 5 (ci 0)] (.block 0 Z0kv)) (.sq [ja 6 94 [.ints .u8 64 (replicate 64 0)]] (.seq (.sq [jm 7 (ci 0)] (.block 2 Z0kx)) (.sq [jl 54 64 true 6,js' 64 2 54] .ret)))))))))⟩
theorem ok58:okF Tryz.prog 58 d58=true:=by kernel_rfl
def d179:FnD:=⟨13,[.tmp 4],(.sq [jm 4 (ci 0)] (.seq (.sq [jm 5 1,jm 6 0,jn' 7 6,jb 8 .lss 5 7] (.cond 8 (.sq [jm 9 0,jm 10 1,ji' 11 1 9 10,jl 12 1 false 11,jm 4 12] .ret) .skip)) (.sq [jm 4 (ci 0)] .ret)))⟩
theorem Z0oe:okF Tryz.prog 179 d179=true:=by kernel_rfl
def Z0a3:IC:=(.ops [jm 9 4,jm 10 0,jm 11 4,jc 12 179 [10,11],jv 13 .u8 12,ji 14 32 1 3 9,js' 1 14 13])
def Z0d4:IC:=(.seq (.sq [jm 5 4,jb 6 .lss 5 (ci 32)] (.cond 6 .skip (.exit 0))) (.seq (.block 1 Z0a3) (.ops [jm 7 4,jb 8 .add 7 (ci 1),jm 4 8])))
def Z0a2:IC:=(.loop Z0d4)
def d112:FnD:=⟨16,[.cell 2 32 true],(.sq [ja 2 74 [.ints .u8 32 (replicate 32 0)]] (.sq [ja 3 74 [.ints .u8 32 (replicate 32 0)]] (.seq (.sq [jm 4 (ci 0)] (.block 0 Z0a2)) (.sq [jl 15 32 true 3,js' 32 2 15] .ret))))⟩
theorem Z0mr:okF Tryz.prog 112 d112=true:=by kernel_rfl
def d182:FnD:=⟨14,[.tmp 4],(.sq [jm 4 (ci 0)] (.seq (.sq [jm 5 0,jn' 6 5,jm 7 1,jn' 8 7,jb 9 .lss 6 8] (.cond 9 (.sq [jm 10 1,jn' 11 10,jm 4 11] .ret) .skip)) (.sq [jm 12 0,jn' 13 12,jm 4 13] .ret)))⟩
theorem Z0oh:okF Tryz.prog 182 d182=true:=by kernel_rfl
def Z0as:IC:=(.sq [jm 14 0,jm 15 5,jc 16 179 [14,15],jm 17 1,jm 18 5,jc 19 179 [17,18],jb 20 .neq 16 19] (.cond 20 (.sq [jm 21 0,jm 22 5,jc 23 179 [21,22],jm 24 1,jm 25 5,jc 26 179 [24,25],jb 27 .lss 23 26,jm 4 27] .ret) .skip))
def Z0dg:IC:=(.seq (.sq [jm 10 5,jb 11 .geq 10 (ci 0)] (.cond 11 .skip (.exit 0))) (.seq (.block 1 Z0as) (.ops [jm 12 5,jb 13 .sub 12 (ci 1),jm 5 13])))
def Z0ar:IC:=(.loop Z0dg)
def d144:FnD:=⟨28,[.tmp 4],(.sq [jm 4 (.const (.bool false))] (.seq (.sq [jm 6 0,jm 7 1,jc 8 182 [6,7],jb 9 .sub 8 (ci 1),jm 5 9] (.block 0 Z0ar)) (.sq [jm 4 (.const (.bool false))] .ret)))⟩
theorem Z0ni:okF Tryz.prog 144 d144=true:=by kernel_rfl
def Z0gg:LJ:=[oj 1 (.bs 3 32 1 [.one (.int .i64 0),.one (.int .i64 0),.one (.int .i64 0),.one (.int .i64 0),.one (.int .i64 0),.one (.int .i64 0),.one (.int .i64 0),.one (.int .i64 0),.one (.int .i64 0),.one (.int .i64 0),.one (.int .i64 0),.one (.int .i64 0),.one (.int .i64 0),.one (.int .i64 0),.one (.int .i64 0),.one (.int .i64 0),.one (.int .i64 0),.one (.int .i64 0),.one (.int .i64 0),.one (.int .i64 0),.one (.int .i64 0),.one (.int .i64 0),.one (.int .i64 0),.one (.int .i64 0),.one (.int .i64 0),.one (.int .i64 0),.one (.int .i64 0),.one (.int .i64 0),.one (.int .i64 0),.one (.int .i64 0),.one (.int .i64 0),.one (.int .i64 0)] [(0,1,(ci 237)),(1,1,(ci 211)),(2,1,(ci 245)),(3,1,(ci 92)),(4,1,(ci 26)),(5,1,(ci 99)),(6,1,(ci 18)),(7,1,(ci 88)),(8,1,(ci 214)),(9,1,(ci 156)),(10,1,(ci 247)),(11,1,(ci 162)),(12,1,(ci 222)),(13,1,(ci 249)),(14,1,(ci 222)),(15,1,(ci 20)),(16,1,(ci 0)),(17,1,(ci 0)),(18,1,(ci 0)),(19,1,(ci 0)),(20,1,(ci 0)),(21,1,(ci 0)),(22,1,(ci 0)),(23,1,(ci 0)),(24,1,(ci 0)),(25,1,(ci 0)),(26,1,(ci 0)),(27,1,(ci 0)),(28,1,(ci 0)),(29,1,(ci 0)),(30,1,(ci 0)),(31,1,(ci 16))]),jm 0 1]
def d145:FnD:=⟨2,[.tmp 0],(.sq [jm 0 (.const (.slice none 0 0))] (.sq Z0gg .ret))⟩
theorem Z0nj:okF Tryz.prog 145 d145=true:=by kernel_rfl
def Z0c4:IC:=(.ops [jm 17 5,jb 18 .quo 17 (ci 2),jm 5 18])
def Z0e4:IC:=(.seq (.sq [jm 11 6,jm 12 1,jb 13 .rem 12 (ci 8),jb 14 .lss 11 13] (.cond 14 .skip (.exit 0))) (.seq (.block 1 Z0c4) (.ops [jm 15 6,jb 16 .add 15 (ci 1),jm 6 16])))
def Z0c3:IC:=(.loop Z0e4)
def d180:FnD:=⟨21,[.tmp 4],(.sq [jm 4 (ci 0)] (.sq [jm 7 0,jm 8 1,jb 9 .quo 8 (ci 8),jc 10 179 [7,9],jm 5 10] (.seq (.sq [jm 6 (ci 0)] (.block 0 Z0c3)) (.sq [jm 19 5,jb 20 .rem 19 (ci 2),jm 4 20] .ret))))⟩
theorem Z0of:okF Tryz.prog 180 d180=true:=by kernel_rfl
def Z0hm:Sch:=(.P 0 (jm 15 0) (.P 1 (jm 16 7) (.P 2 (ji' 17 1 15 16) (.P 4 (jm 19 1) (.P 5 (jm 20 7) (.P 8 (jm 23 6) (.Q 3 (jl 18 1 false 17) (.Q 6 (jc 21 179 [19,20]) (.P 7 (jb 22 .sub 18 21) (.P 9 (jb 24 .sub 22 23) (.P 10 (jm 8 24) .nil)))))))))))
def Z07c:LJ:=[jm 29 5,jm 30 8,oj 31 (.bs 3 1 1 [.one (.int .i64 0)] [(0,1,30)]),oj 32 (.app 3 1 8 [.one (.int .i64 0)] 29 31),jm 5 32]
def Z0c6:IC:=(.seq (.draw Z0hm []) (.sq [jm 6 (ci 0)] (.seq (.sq [jm 25 8,jb 26 .lss 25 (ci 0)] (.cond 26 (.sq [jm 27 8,jb 28 .add 27 (ci 256),jm 8 28] (.ops [jm 6 (ci 1)])) .skip)) (.ops Z07c))))
def Z0e5:IC:=(.seq (.sq [jm 9 7,jm 10 0,jn' 11 10,jb 12 .lss 9 11] (.cond 12 .skip (.exit 0))) (.seq (.block 1 Z0c6) (.ops [jm 13 7,jb 14 .add 13 (ci 1),jm 7 14])))
def Z0c5:IC:=(.loop Z0e5)
def d181:FnD:=⟨34,[.tmp 4],(.sq [jm 4 (.const (.slice none 0 0))] (.sq [jm 5 (.const (.slice none 0 0))] (.sq [jm 6 (ci 0)] (.seq (.sq [jm 7 (ci 0)] (.block 0 Z0c5)) (.sq [jm 33 5,jm 4 33] .ret)))))⟩
theorem Z0og:okF Tryz.prog 181 d181=true:=by kernel_rfl
def Z0a7:IC:=(.sq [jm 26 4,jm 27 7,ji' 28 1 26 27,jl 29 1 false 28,jb 30 .mul (ci 2) 29,jm 31 6,jb 32 .add 30 31,jm 8 32] (.sq [jm 33 4,jm 34 7,jm 35 8,jb 36 .rem 35 (ci 256),ji' 37 1 33 34,js' 1 37 36] (.ops [jm 38 8,jb 39 .quo 38 (ci 256),jm 6 39])))
def Z0d6:IC:=(.seq (.sq [jm 22 7,jb 23 .lss 22 (ci 33)] (.cond 23 .skip (.exit 2))) (.seq (.block 3 Z0a7) (.ops [jm 24 7,jb 25 .add 24 (ci 1),jm 7 25])))
def Z0a6:IC:=(.loop Z0d6)
def Z0a5:IC:=(.sq [jm 19 0,jm 20 5,jc 21 180 [19,20],jm 6 21] (.seq (.sq [jm 7 (ci 0)] (.block 2 Z0a6)) (.sq [jm 40 4,jm 41 3,jc 42 144 [40,41],oj 43 (.un .not 42)] (.cond 43 (.ops [jm 44 4,jm 45 3,jc 46 181 [44,45],jm 4 46]) .skip))))
def Z0d5:IC:=(.seq (.sq [jm 15 5,jb 16 .geq 15 (ci 0)] (.cond 16 .skip (.exit 0))) (.seq (.block 1 Z0a5) (.ops [jm 17 5,jb 18 .sub 17 (ci 1),jm 5 18])))
def Z0a4:IC:=(.loop Z0d5)
def d113:FnD:=⟨48,[.tmp 2],(.sq [jm 2 (.const (.slice none 0 0))] (.sq [jc 9 145 [],jm 3 9] (.sq [oj 10 (.mks 3 8 [.one (.int .i64 0)] (ci 33) (ci 33)),jm 4 10] (.seq (.sq [jm 11 0,jn' 12 11,jb 13 .mul (ci 8) 12,jb 14 .sub 13 (ci 1),jm 5 14] (.block 0 Z0a4)) (.sq [jm 47 4,jm 2 47] .ret)))))⟩
theorem Z0ms:okF Tryz.prog 113 d113=true:=by kernel_rfl
def Z0fi:LJ:=[jm 11 3,jm 12 0,jm 13 4,ji' 14 1 12 13,jl 15 1 false 14,jv 16 .i64 15,oj 17 (.bs 3 1 1 [.one (.int .i64 0)] [(0,1,16)]),oj 18 (.app 3 1 8 [.one (.int .i64 0)] 11 17),jm 3 18]
def Z0a9:IC:=(.ops Z0fi)
def Z0d7:IC:=(.seq (.sq [jm 5 4,jm 6 0,jn' 7 6,jb 8 .lss 5 7] (.cond 8 .skip (.exit 0))) (.seq (.block 1 Z0a9) (.ops [jm 9 4,jb 10 .add 9 (ci 1),jm 4 10])))
def Z0a8:IC:=(.loop Z0d7)
def d114:FnD:=⟨20,[.tmp 2],(.sq [jm 2 (.const (.slice none 0 0))] (.sq [jm 3 (.const (.slice none 0 0))] (.seq (.sq [jm 4 (ci 0)] (.block 0 Z0a8)) (.sq [jm 19 3,jm 2 19] .ret))))⟩
theorem Z0mt:okF Tryz.prog 114 d114=true:=by kernel_rfl
def d59:FnD:=⟨7,[.cell 2 32 true],(.sq [jx 1 94 0,ja 2 74 [.ints .u8 32 (replicate 32 0)]] (.sq [oj 3 (.sla 64 1 1 none none none),jc 4 114 [3],jc 5 113 [4],jc 6 112 [5],js' 32 2 6] .ret))⟩
theorem ok59:okF Tryz.prog 59 d59=true:=by kernel_rfl
def d60:FnD:=⟨18,[.tmp 6],(.sq [jm 6 (.const (.slice none 0 0))] (.sq [jm 7 (.const (.slice none 0 0))] (.sq [jm 8 7,jm 9 0,oj 10 (.app 5 1 1 [.one (.int .u8 0)] 8 9),jm 7 10] (.sq [jm 11 7,jm 12 1,oj 13 (.app 5 1 1 [.one (.int .u8 0)] 11 12),jm 7 13] (.sq [jm 14 7,jm 15 2,oj 16 (.app 5 1 1 [.one (.int .u8 0)] 14 15),jm 7 16] (.sq [jm 17 7,jm 6 17] .ret))))))⟩
theorem ok60:okF Tryz.prog 60 d60=true:=by kernel_rfl
def r3_3:Sch:=(.Q 0 (jl 14 32 true 2) (.P 1 (jc 15 12 [14]) (.Q 2 (jl 16 32 true 2) (.P 3 (jc 17 13 [16]) (.P 4 (oj 18 (.eqa true [(.i .u8,32)] 15 17)) (.P 5 (jm 19 18) (.q [6,7,8,9,10,11] (.lg true 19 25 none [.op ⟨some 20,(some (19,false)),.ld 64 true 6⟩,.op ⟨some 21,(some (19,false)),.ld 32 true 2⟩,.op ⟨some 22,(some (19,false)),.mv 1⟩,.op ⟨some 23,(some (19,false)),.call 14 [21,22]⟩,.op ⟨some 24,(some (19,false)),.eqa true [(.i .u8,64)] 20 23⟩] 24) (.P 12 (jm 26 25) (.q [13,14,15,16,17] (.lg true 26 31 none [.op ⟨some 27,(some (26,false)),.mv 5⟩,.op ⟨some 28,(some (26,false)),.mv 1⟩,.op ⟨some 29,(some (26,false)),.call 15 [27,28]⟩,.op ⟨some 30,(some (26,false)),.un .not 29⟩] 30) .nil)))))))))
def r3_7:Sch:=(.P 2 (jm 39 7) (.Q 0 (jl 37 64 true 8) (.Q 1 (jl 38 32 true 2) (.Q 3 (jc 40 14 [38,39]) (.P 4 (oj 41 (.eqa false [(.i .u8,64)] 37 40)) (.P 5 (jm 42 41) (.q [6,7,8,9] (.lg false 42 46 none [.op ⟨some 43,(some (42,true)),.mv 5⟩,.op ⟨some 44,(some (42,true)),.mv 7⟩,.op ⟨some 45,(some (42,true)),.call 15 [43,44]⟩] 45) (.P 10 (jm 4 46) .nil))))))))
def d3:FnD:=⟨47,[.tmp 4],(.sq [jx 2 23 0,jm 4 (.const (.bool false))] (.sq [jm 9 1,jc 10 10 [9],jm 5 10] (.sq [jl 11 32 true 2,jm 12 5,jc 13 11 [11,12],ja 6 27 [.ints .u8 64 (replicate 64 0)],js' 64 6 13] (.seq (.seq (.draw r3_3 []) (.cond 31 (.sq [jm 4 (.const (.bool false))] .ret) .skip)) (.sq [jm 32 5,jc 33 16 [32],jm 7 33] (.sq [jl 34 32 true 2,jm 35 5,jc 36 11 [34,35],ja 8 27 [.ints .u8 64 (replicate 64 0)],js' 64 8 36] (.seq (.draw r3_7 []) .ret)))))))⟩
def Z0fj:Sch:=(.Q 0 (jl 3 32 true 1) (.P 1 (jc 4 122 [3]) (.P 2 (jc 5 91 [4]) (.Q 3 (jl 6 32 true 1) (.P 4 (oj 7 (.eqa false [(.i .u8,32)] 5 6)) (.P 5 (jm 2 7) .nil))))))
def d121:FnD:=⟨8,[.tmp 2],(.sq [jx 1 22 0,jm 2 (.const (.bool false))] (.seq (.draw Z0fj []) .ret))⟩
theorem Z0mv:okF Tryz.prog 121 d121=true:=by kernel_rfl
def d129:FnD:=⟨7,[.tmp 2],(.sq [jx 1 80 0,jm 2 (.const (.bool false))] (.sq [jl 3 5 true 1,jc 4 155 [3],jd 5 [Z5] [],oj 6 (.eqa false [(.i .u64,5)] 4 5),jm 2 6] .ret))⟩
theorem Z0n3:okF Tryz.prog 129 d129=true:=by kernel_rfl
def Z0hn:Sch:=(.Q 0 (jl 5 5 true 2) (.P 1 (jc 6 155 [5]) (.Q 2 (jl 7 5 true 3) (.P 3 (jc 8 155 [7]) (.P 4 (oj 9 (.eqa false [(.i .u64,5)] 6 8)) (.P 5 (jm 4 9) .nil))))))
def d187:FnD:=⟨10,[.tmp 4],(.sq [jx 2 80 0,jx 3 80 1,jm 4 (.const (.bool false))] (.seq (.draw Z0hn []) .ret))⟩
theorem Z0oj:okF Tryz.prog 187 d187=true:=by kernel_rfl
def d189:FnD:=⟨12,[.cell 6 5 true],(.sq [jx 4 80 1,jx 5 80 2,ja 6 80 [Z5]] (.seq (.sq [jm 7 0] (.cond 7 (.sq [jl 8 5 true 4,jc 9 155 [8],js' 5 6 9] .ret) .skip)) (.sq [jl 10 5 true 5,jc 11 155 [10],js' 5 6 11] .ret)))⟩
theorem Z0ol:okF Tryz.prog 189 d189=true:=by kernel_rfl
def Z0fn:Sch:=(.Q 0 (jl 15 5 true 3) (.P 1 (jc 16 123 [15]) (.Q 2 (jl 17 5 true 3) (.P 3 (jc 18 92 [16,17]) (.e 4 (oi 6 (.al 80 [Z5])) (.e 5 (jo' 5 6 18) .nil))))))
def Z0fo:Sch:=(.Q 0 (jl 19 5 true 2) (.Q 1 (jl 20 5 true 6) (.P 2 (jc 21 123 [20]) (.P 3 (jc 22 92 [19,21]) (.Q 4 (jl 23 5 true 3) (.P 5 (jc 24 92 [22,23]) (.e 6 (oi 7 (.al 80 [Z5])) (.e 7 (jo' 5 7 24) .nil))))))))
def Z0fp:Sch:=(.Q 0 (jl 25 5 true 2) (.Q 1 (jl 26 5 true 6) (.P 2 (jc 27 92 [25,26]) (.P 4 (jc 29 154 [(c8 253),(c8 15)]) (.Q 3 (jl 28 5 true 7) (.P 5 (jc 30 153 [28,29]) (.P 6 (jc 31 92 [27,30]) (.e 7 (oi 8 (.al 80 [Z5])) (.e 8 (jo' 5 8 31) .nil)))))))))
def Z0fq:Sch:=(.Q 0 (jl 32 5 true 3) (.Q 1 (jl 33 5 true 8) (.P 2 (jc 34 123 [33]) (.P 3 (jc 35 92 [32,34]) (.e 4 (oi 9 (.al 80 [Z5])) (.e 5 (jo' 5 9 35) .nil))))))
def Z0fr:Sch:=(.Q 0 (jl 42 5 true 9) (.Q 1 (jl 43 5 true 2) (.P 2 (jc 44 130 [43]) (.P 3 (jc 45 187 [42,44]) (.P 4 (jm 41 45) .nil)))))
def Z071:Sch:=(.P 1 (jc 47 188 [(cu 2)]) (.P 2 (jc 48 154 [(c8 251),(c8 31)]) (.P 3 (jc 49 153 [47,48]) (.Q 0 (jl 46 5 true 8) (.P 4 (jc 50 92 [46,49]) (.e 5 (jo' 5 8 50) .nil))))))
def Z0ae:IC:=(.sq [jl 38 5 true 9,jl 39 5 true 2,jc 40 187 [38,39],jm 37 40] (.cond 37 .skip (.seq (.draw Z0fr []) (.cond 41 (.draw Z071 [5]) (.sq [jd 36 [Z5] [],js' 5 4 36,jm 5 (.const (.bool false))] .ret)))))
def Z072:Sch:=(.Q 0 (jl 51 5 true 8) (.P 1 (jc 52 93 [51]) (.Q 2 (jl 53 5 true 8) (.P 3 (jc 54 130 [53]) (.Q 4 (jl 55 5 true 8) (.P 5 (jc 56 189 [52,54,55]) (.e 6 (jo' 5 4 56) (.P 7 (jm 5 (.const (.bool true))) .nil))))))))
def d125:FnD:=⟨57,[.cell 4 5 true,.tmp 5],(.sq [jx 2 80 0,jx 3 80 1,ja 4 80 [Z5],jm 5 (.const (.bool false))] (.seq (.sq [jl 10 5 true 3,jc 11 129 [10]] (.cond 11 (.sq [jd 12 [Z5] [],jl 13 5 true 2,jc 14 129 [13],js' 5 4 12,jm 5 14] .ret) .skip)) (.seq (.draw Z0fn [5]) (.seq (.draw Z0fo [7]) (.seq (.draw Z0fp [8]) (.seq (.seq (.draw Z0fq [5]) (.block 0 Z0ae)) (.seq (.draw Z072 [6]) .ret)))))))⟩
theorem Z0mz:okF Tryz.prog 125 d125=true:=by kernel_rfl
def Z0fv:LJ:=[jd 1 [Z5] [(0,1,(cu 929955233495203)),(1,1,(cu 466365720129213)),(2,1,(cu 1662059464998953)),(3,1,(cu 2033849074728123)),(4,1,(cu 1442794654840575))],js' 5 0 1]
def d128:FnD:=⟨2,[.cell 0 5 true],(.sq [ja 0 80 [Z5]] (.sq Z0fv .ret))⟩
theorem Z0n2:okF Tryz.prog 128 d128=true:=by kernel_rfl
def Z0qj:Sch:=(.Q 0 (jl 28 5 true 6) (.Q 1 (jl 29 5 true 7) (.P 2 (jc 30 126 [28,29]) (.P 3 (jc 31 128 []) (.Q 4 (jl 32 5 true 6) (.P 5 (jc 33 92 [31,32]) (.Q 6 (jl 34 5 true 7) (.P 7 (jc 35 127 [33,34]) (.P 8 (jc 36 125 [30,35]) (.P 9 (jm 27 36) (.P 10 (je 37 27 0) (.P 11 (je 38 27 1) (.e 12 (oi 8 (.al 80 [Z5])) (.e 13 (jo' 5 8 37) (.P 14 (jm 9 38) .nil)))))))))))))))
def Z0qk:LJ:=[jm 39 9,oj 40 (.un .not 39),jm 41 40,.lg true 41 47 none [.op ⟨some 42,(some (41,false)),.mv 4⟩,.op ⟨some 43,(some (41,false)),.mv 42⟩,.lg false 43 46 (some (41,false)) [.op ⟨some 44,(some (43,true)),.ld 5 true 8⟩,.op ⟨some 45,(some (43,true)),.call 129 [44]⟩] 45] 46]
def Z0ij:Sch:=(.Q 0 (jl 52 5 true 8) (.Q 1 (jl 53 5 true 5) (.Q 2 (jl 54 5 true 7) (.Q 3 (jl 55 5 true 8) (.Q 4 (jl 56 5 true 5) (.P 5 (jc 57 92 [55,56]) (.P 6 (jd 58 [Z5,Z5,Z5,Z5] [(0,5,52),(5,5,53),(10,5,54),(15,5,57)]) (.e 7 (jo' 20 2 58) (.P 8 (jm 3 (.const (.bool true))) .nil)))))))))
def d66:FnD:=⟨59,[.cell 2 20 true,.tmp 3],(.sq [jx 1 29 0,ja 2 82 [Z5,Z5,Z5,Z5],jm 3 (.const (.bool false))] (.sq [ji 10 32 1 1 (ci 31),jl 11 1 false 10,jb 12 .shr 11 (cu 7),jb 13 .eql 12 (c8 1),jm 4 13] (.sq [ji 14 32 1 1 (ci 31),jl 15 1 false 14,jb 16 .and 15 (c8 127),ji 17 32 1 1 (ci 31),js' 1 17 16] (.seq (.sq [jl 18 32 true 1,jc 19 121 [18],oj 20 (.un .not 19)] (.cond 20 (.sq [jd 21 [Z5,Z5,Z5,Z5] [],js' 20 2 21,jm 3 (.const (.bool false))] .ret) .skip)) (.sq [jl 22 32 true 1,jc 23 122 [22],ja 5 80 [Z5],js' 5 5 23] (.sq [jl 24 5 true 5,jc 25 123 [24],ja 6 80 [Z5],js' 5 6 25] (.sq [jc 26 124 [],ja 7 80 [Z5],js' 5 7 26] (.seq (.draw Z0qj [13]) (.seq (.sq Z0qk (.cond 47 (.sq [jd 48 [Z5,Z5,Z5,Z5] [],js' 20 2 48,jm 3 (.const (.bool false))] .ret) .skip)) (.seq (.sq [jm 49 4] (.cond 49 (.ops [jl 50 5 true 8,jc 51 130 [50],js' 5 8 51]) .skip)) (.seq (.draw Z0ij [7]) .ret)))))))))))⟩
theorem ok66:okF Tryz.prog 66 d66=true:=by kernel_rfl
def Z0ql:Sch:=(.Q 0 (jl 6 32 true 1) (.P 1 (jc 7 132 [6]) (.Q 2 (jl 8 4 true (.global 1)) (.P 3 (jc 9 131 [7,8]) (.P 4 (jm 5 9) (.P 5 (je 10 5 0) (.P 6 (je 11 5 1) (.e 7 (oi 3 (.al 162 [.ints .u64 4 (replicate 4 0)])) (.e 8 (jo' 4 3 10) (.P 9 (jm 4 11) .nil))))))))))
def d67:FnD:=⟨14,[.tmp 2],(.sq [jx 1 74 0,jm 2 (.const (.bool false))] (.seq (.draw Z0ql [8]) (.sq [jm 12 4,jb 13 .eql 12 (cu 1),jm 2 13] .ret)))⟩
theorem ok67:okF Tryz.prog 67 d67=true:=by kernel_rfl
def Z0qm:Sch:=(.Q 0 (jl 13 20 true 4) (.P 1 (jc 14 133 [13]) (.Q 2 (jl 15 20 true 7) (.P 3 (jc 16 133 [15]) (.two 4 (oi 8 (.al 166 [.rows 20 16 (fun _=>cells [Z5,Z5,Z5,Z5])])) (.e 5 (oi 9 (.al 166 [.rows 20 16 (fun _=>cells [Z5,Z5,Z5,Z5])])) (.e 6 (jo' 320 8 14) (.e 7 (jo' 320 9 16) .nil)))
 5 ⟨some 9,none,.al 166 [.rows 20 16 (fun _=>cells [Z5,Z5,Z5,Z5])]⟩ (.e 4 (oi 8 (.al 166 [.rows 20 16 (fun _=>cells [Z5,Z5,Z5,Z5])])) (.e 6 (jo' 320 8 14) (.e 7 (jo' 320 9 16) .nil))))))))
def Z0l4:IC:=(.ops [jl 23 20 true 10,jc 24 135 [23],js' 20 10 24])
def Z0m5:IC:=(.sq [jb 22 .lss 21 (ci 4)] (.seq (.cond 22 .skip (.exit 2)) (.seq (.block 3 Z0l4) (.ops [jb 25 .add 21 (ci 1),jm 21 25]))))
def Z0l3:IC:=(.loop Z0m5)
def Z0ik:Sch:=(.P 2 (jm 28 11) (.P 8 (jm 34 11) (.Q 0 (jl 26 20 true 10) (.Q 1 (jl 27 32 true 3) (.P 3 (jc 29 137 [27,28]) (.P 4 (ji 30 16 20 8 29) (.Q 5 (jl 31 20 true 30) (.P 6 (jc 32 136 [26,31]) (.Q 7 (jl 33 32 true 5) (.P 9 (jc 35 137 [33,34]) (.P 10 (ji 36 16 20 9 35) (.Q 11 (jl 37 20 true 36) (.P 12 (jc 38 136 [32,37]) (.e 13 (jo' 20 10 38) .nil))))))))))))))
def Z0l2:IC:=(.sq [jm 20 18,jm 11 20] (.seq (.sq [jm 21 (ci 0)] (.block 2 Z0l3)) (.draw Z0ik [13])))
def Z0m4:IC:=(.sq [jb 19 .lss 18 (ci 64)] (.seq (.cond 19 .skip (.exit 0)) (.seq (.block 1 Z0l2) (.ops [jb 39 .add 18 (ci 1),jm 18 39]))))
def Z0l1:IC:=(.loop Z0m4)
def d68:FnD:=⟨41,[.cell 6 20 true],(.sq [jx 3 74 0,jx 4 82 1,jx 5 74 2,ja 6 82 [Z5,Z5,Z5,Z5]] (.sq [jc 12 95 [],ja 7 82 [Z5,Z5,Z5,Z5],js' 20 7 12] (.seq (.draw Z0qm [6,7]) (.sq [jc 17 134 [],ja 10 82 [Z5,Z5,Z5,Z5],js' 20 10 17] (.seq (.sq [jm 18 (ci 0)] (.block 0 Z0l1)) (.sq [jl 40 20 true 10,js' 20 6 40] .ret))))))⟩
theorem ok68:okF Tryz.prog 68 d68=true:=by kernel_rfl
def Z0qn:Sch:=(.P 0 (jf 3 0 1) (.P 3 (jf 6 5 1) (.P 5 (jf 8 10 1) (.P 7 (jf 10 15 1) (.Q 1 (jl 4 5 true 3) (.P 2 (jc 5 130 [4]) (.Q 4 (jl 7 5 true 6) (.Q 6 (jl 9 5 true 8) (.Q 8 (jl 11 5 true 10) (.P 9 (jc 12 130 [11]) (.P 10 (jd 13 [Z5,Z5,Z5,Z5] [(0,5,5),(5,5,7),(10,5,9),(15,5,12)]) (.e 11 (jo' 20 2 13) .nil))))))))))))
def d69:FnD:=⟨14,[.cell 2 20 true],(.sq [jx 1 82 0,ja 2 82 [Z5,Z5,Z5,Z5]] (.seq (.draw Z0qn [11]) .ret))⟩
theorem ok69:okF Tryz.prog 69 d69=true:=by kernel_rfl
def Z0po:LJ:=[oj 17 (.sla 64 1 5 (some (ci 32)) none none),oj 18 (.s2a 32 17),jl 19 32 true 18,ja 9 74 [.ints .u8 32 (replicate 32 0)],js' 32 9 19]
def Z0pp:LJ:=[jm 20 8,oj 21 (.un .not 20),jm 22 21,.lg true 22 26 none [.op ⟨some 23,(some (22,false)),.ld 32 true 9⟩,.op ⟨some 24,(some (22,false)),.call 67 [23]⟩,.op ⟨some 25,(some (22,false)),.un .not 24⟩] 25]
def Z0pq:Sch:=(.P 0 (oj 27 (.sla 64 1 5 none (some (ci 32)) none)) (.P 1 (oj 28 (.sla 32 1 3 none none none)) (.P 2 (jm 29 1) (.two 3 (oi 30 (.bs 24 3 1 [.one (.slice none 0 0),.one (.slice none 0 0),.one (.slice none 0 0)] [(0,1,27),(1,1,28),(2,1,29)])) (.two 4 (oi 31 (.call 52 [30])) (.e 5 (oi 10 (.al 74 [.ints .u8 32 (replicate 32 0)])) (.e 6 (jo' 32 10 31) .nil))
 5 ⟨some 10,none,.al 74 [.ints .u8 32 (replicate 32 0)]⟩ (.e 4 (oi 31 (.call 52 [30])) (.e 6 (jo' 32 10 31) .nil)))
 5 ⟨some 10,none,.al 74 [.ints .u8 32 (replicate 32 0)]⟩ (.e 3 (oi 30 (.bs 24 3 1 [.one (.slice none 0 0),.one (.slice none 0 0),.one (.slice none 0 0)] [(0,1,27),(1,1,28),(2,1,29)])) (.e 4 (oi 31 (.call 52 [30])) (.e 6 (jo' 32 10 31) .nil)))))))
def Z0pr:Sch:=(.Q 0 (jl 32 32 true 10) (.Q 1 (jl 33 20 true 7) (.P 2 (jc 34 69 [33]) (.Q 3 (jl 35 32 true 9) (.P 4 (jc 36 68 [32,34,35]) (.P 5 (jc 37 50 [36]) (.e 6 (oi 11 (.al 29 [.ints .u8 32 (replicate 32 0)])) (.e 7 (jo' 32 11 37) .nil))))))))
def Z0ps:Sch:=(.P 1 (oj 39 (.sla 64 1 5 none (some (ci 32)) none)) (.P 2 (oj 40 (.s2a 32 39)) (.Q 0 (jl 38 32 true 11) (.Q 3 (jl 41 32 true 40) (.P 4 (oj 42 (.eqa false [(.i .u8,32)] 38 41)) (.P 5 (jm 6 42) .nil))))))
def d25:FnD:=⟨43,[.tmp 6],(.sq [jx 3 29 0,jx 5 27 2,jm 6 (.const (.bool false))] (.sq [jl 13 32 true 3,jc 14 66 [13],jm 12 14,je 15 12 0,je 16 12 1,ja 7 82 [Z5,Z5,Z5,Z5],js' 20 7 15,jm 8 16] (.sq Z0po (.seq (.sq Z0pp (.cond 26 (.sq [jm 6 (.const (.bool false))] .ret) .skip)) (.seq (.draw Z0pq [6]) (.seq (.draw Z0pr [7]) (.seq (.draw Z0ps []) .ret)))))))⟩
theorem ok25:okF Tryz.prog 25 d25=true:=by kernel_rfl
def Z0g9:Sch:=(.Q 0 (jl 3 32 true 1) (.P 1 (jc 4 139 [3]) (.P 2 (jc 5 103 [4]) (.Q 3 (jl 6 32 true 1) (.P 4 (oj 7 (.eqa false [(.i .u8,32)] 5 6)) (.P 5 (jm 2 7) .nil))))))
def d138:FnD:=⟨8,[.tmp 2],(.sq [jx 1 22 0,jm 2 (.const (.bool false))] (.seq (.draw Z0g9 []) .ret))⟩
theorem Z0nc:okF Tryz.prog 138 d138=true:=by kernel_rfl
def Z0qq:LJ:=[jm 26 7,oj 27 (.un .not 26),jm 28 27,.lg true 28 34 none [.op ⟨some 29,(some (28,false)),.mv 4⟩,.op ⟨some 30,(some (28,false)),.mv 29⟩,.lg false 30 33 (some (28,false)) [.op ⟨some 31,(some (30,true)),.ld 10 true 6⟩,.op ⟨some 32,(some (30,true)),.call 141 [31]⟩] 32] 33]
def d70:FnD:=⟨42,[.cell 2 30 true,.tmp 3],(.sq [jx 1 29 0,ja 2 90 [Z10,Z10,Z10],jm 3 (.const (.bool false))] (.sq [ji 8 32 1 1 (ci 31),jl 9 1 false 8,jb 10 .geq 9 (c8 128),jm 4 10] (.sq [ji 11 32 1 1 (ci 31),jl 12 1 false 11,jb 13 .rem 12 (c8 128),ji 14 32 1 1 (ci 31),js' 1 14 13] (.seq (.sq [jl 15 32 true 1,jc 16 138 [15],oj 17 (.un .not 16)] (.cond 17 (.sq [jd 18 [Z10,Z10,Z10] [],js' 30 2 18,jm 3 (.const (.bool false))] .ret) .skip)) (.sq [jl 19 32 true 1,jc 20 139 [19],ja 5 88 [Z10],js' 10 5 20] (.sq [jl 22 10 true 5,jc 23 140 [22],jm 21 23,je 24 21 0,je 25 21 1,ja 6 88 [Z10],js' 10 6 24,jm 7 25] (.seq (.sq Z0qq (.cond 34 (.sq [jd 35 [Z10,Z10,Z10] [],js' 30 2 35,jm 3 (.const (.bool false))] .ret) .skip)) (.seq (.sq [jm 36 4] (.cond 36 (.ops [jl 37 10 true 6,jc 38 142 [37],js' 10 6 38]) .skip)) (.sq [jl 39 10 true 6,jl 40 10 true 5,jc 41 143 [39,40],js' 30 2 41,jm 3 (.const (.bool true))] .ret)))))))))⟩
theorem ok70:okF Tryz.prog 70 d70=true:=by kernel_rfl
def d71:FnD:=⟨7,[.tmp 2],(.sq [jx 1 74 0,jm 2 (.const (.bool false))] (.sq [oj 3 (.sla 32 1 1 none none none),jc 4 114 [3],jc 5 145 [],jc 6 144 [4,5],jm 2 6] .ret))⟩
theorem ok71:okF Tryz.prog 71 d71=true:=by kernel_rfl
def Z0qr:Sch:=(.Q 0 (jl 7 32 true 3) (.Q 1 (jl 8 30 true 4) (.P 2 (jc 9 106 [7,8]) (.Q 3 (jl 10 32 true 5) (.P 4 (jc 11 55 [10]) (.P 5 (jc 12 146 [9,11]) (.e 6 (jo' 30 6 12) .nil)))))))
def d72:FnD:=⟨13,[.cell 6 30 true],(.sq [jx 3 74 0,jx 4 90 1,jx 5 74 2,ja 6 90 [Z10,Z10,Z10]] (.seq (.draw Z0qr [6]) .ret))⟩
theorem ok72:okF Tryz.prog 72 d72=true:=by kernel_rfl
def Z0qs:Sch:=(.P 0 (jf 3 0 1) (.P 3 (jf 6 10 1) (.P 5 (jf 8 20 1) (.Q 1 (jl 4 10 true 3) (.P 2 (jc 5 142 [4]) (.Q 4 (jl 7 10 true 6) (.Q 6 (jl 9 10 true 8) (.P 7 (jd 10 [Z10,Z10,Z10] [(0,10,5),(10,10,7),(20,10,9)]) (.e 8 (jo' 30 2 10) .nil)))))))))
def d73:FnD:=⟨11,[.cell 2 30 true],(.sq [jx 1 90 0,ja 2 90 [Z10,Z10,Z10]] (.seq (.draw Z0qs [8]) .ret))⟩
theorem ok73:okF Tryz.prog 73 d73=true:=by kernel_rfl
def Z0pt:LJ:=[jl 13 64 true 5,jc 14 57 [13,(.const (.bool false))],ja 7 22 [.ints .u8 32 (replicate 32 0)],js' 32 7 14]
def Z0pu:LJ:=[jm 22 10,oj 23 (.un .not 22),jm 24 23,.lg true 24 28 none [.op ⟨some 25,(some (24,false)),.ld 32 true 8⟩,.op ⟨some 26,(some (24,false)),.call 71 [25]⟩,.op ⟨some 27,(some (24,false)),.un .not 26⟩] 27]
def Z0pv:Sch:=(.P 0 (oj 29 (.sla 32 1 7 none none none)) (.P 1 (oj 30 (.sla 32 1 3 none none none)) (.P 2 (jm 31 1) (.two 3 (oi 32 (.call 60 [29,30,31])) (.two 4 (oi 33 (.call 58 [32])) (.P 5 (jc 34 59 [33]) (.e 6 (oi 11 (.al 74 [.ints .u8 32 (replicate 32 0)])) (.e 7 (jo' 32 11 34) .nil)))
 6 ⟨some 11,none,.al 74 [.ints .u8 32 (replicate 32 0)]⟩ (.e 4 (oi 33 (.call 58 [32])) (.P 5 (jc 34 59 [33]) (.e 7 (jo' 32 11 34) .nil))))
 6 ⟨some 11,none,.al 74 [.ints .u8 32 (replicate 32 0)]⟩ (.e 3 (oi 32 (.call 60 [29,30,31])) (.e 4 (oi 33 (.call 58 [32])) (.P 5 (jc 34 59 [33]) (.e 7 (jo' 32 11 34) .nil))))))))
def Z0pw:Sch:=(.Q 0 (jl 35 32 true 11) (.Q 1 (jl 36 30 true 9) (.P 2 (jc 37 73 [36]) (.Q 3 (jl 38 32 true 8) (.P 4 (jc 39 72 [35,37,38]) (.e 5 (oi 12 (.al 90 [Z10,Z10,Z10])) (.e 6 (jo' 30 12 39) .nil)))))))
def Z0px:Sch:=(.Q 0 (jl 40 30 true 12) (.P 1 (jc 41 54 [40]) (.Q 2 (jl 42 32 true 7) (.P 3 (oj 43 (.eqa false [(.i .u8,32)] 41 42)) (.P 4 (jm 6 43) .nil)))))
def d26:FnD:=⟨44,[.tmp 6],(.sq [jx 3 29 0,jx 5 27 2,jm 6 (.const (.bool false))] (.sq Z0pt (.sq [jl 15 64 true 5,jc 16 57 [15,(.const (.bool true))],ja 8 74 [.ints .u8 32 (replicate 32 0)],js' 32 8 16] (.sq [jl 18 32 true 3,jc 19 70 [18],jm 17 19,je 20 17 0,je 21 17 1,ja 9 90 [Z10,Z10,Z10],js' 30 9 20,jm 10 21] (.seq (.sq Z0pu (.cond 28 (.sq [jm 6 (.const (.bool false))] .ret) .skip)) (.seq (.draw Z0pv [7]) (.seq (.draw Z0pw [6]) (.seq (.draw Z0px []) .ret))))))))⟩
theorem ok26:okF Tryz.prog 26 d26=true:=by kernel_rfl
def r5_2:Sch:=(.P 1 (jm 12 7) (.P 5 (jm 16 1) (.Q 0 (jl 11 32 true 3) (.Q 2 (jl 13 64 true 5) (.Q 3 (jc 14 25 [11,12,13]) (.Q 4 (jl 15 32 true 3) (.Q 6 (jl 17 64 true 5) (.Q 7 (jc 18 26 [15,16,17]) (.P 8 (oj 19 (.beq true 14 18)) (.P 9 (jm 20 19) (.q [10,11,12,13,14] (.lg true 20 25 none [.op ⟨some 21,(some (20,false)),.mv 7⟩,.op ⟨some 22,(some (20,false)),.mv 1⟩,.op ⟨some 23,(some (20,false)),.call 15 [21,22]⟩,.op ⟨some 24,(some (20,false)),.un .not 23⟩] 24) .nil)))))))))))
def r5_5:Sch:=(.P 1 (jm 29 7) (.P 5 (jm 33 8) (.Q 0 (jl 28 32 true 3) (.Q 2 (jl 30 64 true 5) (.Q 3 (jc 31 25 [28,29,30]) (.Q 4 (jl 32 32 true 3) (.Q 6 (jl 34 64 true 5) (.Q 7 (jc 35 26 [32,33,34]) (.P 8 (oj 36 (.beq false 31 35)) (.P 9 (jm 37 36) (.q [10,11,12,13] (.lg false 37 41 none [.op ⟨some 38,(some (37,true)),.mv 7⟩,.op ⟨some 39,(some (37,true)),.mv 8⟩,.op ⟨some 40,(some (37,true)),.call 15 [38,39]⟩] 40) (.P 14 (jm 6 41) .nil))))))))))))
def d5:FnD:=⟨42,[.tmp 6],(.sq [jx 3 29 0,jx 5 27 2,jm 6 (.const (.bool false))] (.sq [jm 9 1,jc 10 10 [9],jm 7 10] (.seq (.seq (.draw r5_2 []) (.cond 25 (.sq [jm 6 (.const (.bool false))] .ret) .skip)) (.sq [jm 26 7,jc 27 16 [26],jm 8 27] (.seq (.draw r5_5 []) .ret)))))⟩
def d74:FnD:=⟨3,[.tmp 0],(.sq [jm 0 (.const (.pointer none))] (.sq [jd 1 [.one (.slice none 0 0),.one (.int .i64 0)] [],jx 2 178 1,jm 0 2] .ret))⟩
theorem ok74:okF Tryz.prog 74 d74=true:=by kernel_rfl
def Z0gk:LJ:=[jm 9 0,jm 10 0,jz 11 10,jf 12 0 11,jl 13 1 false 12,jm 14 1,oj 15 (.app 5 1 1 [.one (.int .u8 0)] 13 14),jz 16 9,jf 17 0 16,js' 1 17 15]
def d147:FnD:=⟨18,[],(.sq [jm 4 0,jz 5 4,jf 6 1 5,jl 7 1 false 6,jb 8 .eql 7 (ci 0)] (.cond 8 (.ops Z0gk) .skip))⟩
theorem Z0nl:okF Tryz.prog 147 d147=true:=by kernel_rfl
def d75:FnD:=⟨7,[],(.ops [jm 4 0,jm 5 1,jc 6 147 [4,5]])⟩
theorem ok75:okF Tryz.prog 75 d75=true:=by kernel_rfl
def Z0qt:LJ:=[jm 3 0,jb 4 .lss 3 (ci 1),jm 5 4,.lg true 5 8 none [.op ⟨some 6,(some (5,false)),.mv 0⟩,.op ⟨some 7,(some (5,false)),.bin .gtr 6 (ci 255)⟩] 7]
def Z0qu:LJ:=[jm 9 0,jv 10 .u8 9,oj 11 (.bs 5 4 1 [.one (.int .u8 0),.one (.int .u8 0),.one (.int .u8 0),.one (.int .u8 0)] [(0,1,(c8 70)),(1,1,(c8 66)),(2,1,(c8 1)),(3,1,10)]),jm 2 11]
def d76:FnD:=⟨12,[.tmp 2],(.sq [jm 2 (.const (.slice none 0 0))] (.seq (.sq Z0qt (.cond 8 (.sq [jm 2 (.const (.slice none 0 0))] .ret) .skip)) (.sq Z0qu .ret)))⟩
theorem ok76:okF Tryz.prog 76 d76=true:=by kernel_rfl
def Z0ce:IC:=(.ops [jm 9 1,jb 10 .add 9 (ci 1),jm 1 10])
def Z0e9:IC:=(.seq (.sq [jm 5 2,jb 6 .neq 5 (.const (.int .u32 0))] (.cond 6 .skip (.exit 0))) (.seq (.block 1 Z0ce) (.ops [jm 7 2,jb 8 .shr 7 (cu 1),jm 2 8])))
def Z0cd:IC:=(.loop Z0e9)
def d199:FnD:=⟨12,[.tmp 0],(.sq [jm 0 (ci 0)] (.sq [jm 1 (ci 0)] (.seq (.sq [jv 3 .u32 (ci 0),oj 4 (.un .xor 3),jm 2 4] (.block 0 Z0cd)) (.sq [jm 11 1,jm 0 11] .ret))))⟩
theorem Z0ou:okF Tryz.prog 199 d199=true:=by kernel_rfl
def Z0au:IC:=(.sq [jm 15 3,jm 16 4,jm 17 0,jv 18 .u8 17,ji' 19 1 15 16,js' 1 19 18] (.ops [jm 20 0,jb 21 .shr 20 (cu 8),jm 0 21]))
def Z0dh:IC:=(.seq (.sq [jm 11 4,jb 12 .geq 11 (ci 0)] (.cond 12 .skip (.exit 0))) (.seq (.block 1 Z0au) (.ops [jm 13 4,jb 14 .sub 13 (ci 1),jm 4 14])))
def Z0at:IC:=(.loop Z0dh)
def d148:FnD:=⟨23,[.tmp 2],(.sq [jm 2 (.const (.slice none 0 0))] (.sq [jc 5 199 [],jb 6 .quo 5 (ci 8),oj 7 (.mks 5 1 [.one (.int .u8 0)] 6 6),jm 3 7] (.seq (.sq [jm 8 3,jn' 9 8,jb 10 .sub 9 (ci 1),jm 4 10] (.block 0 Z0at)) (.sq [jm 22 3,jm 2 22] .ret))))⟩
theorem Z0nm:okF Tryz.prog 148 d148=true:=by kernel_rfl
def d77:FnD:=⟨8,[],(.ops [jm 4 0,jm 5 1,jc 6 148 [5],jc 7 147 [4,6]])⟩
theorem ok77:okF Tryz.prog 77 d77=true:=by kernel_rfl
def Z0qv:Sch:=(.P 0 (jm 9 0) (.P 1 (jz 10 9) (.P 2 (jf 11 1 10) (.P 4 (jm 2 (.const (.slice none 0 0))) (.Q 3 (jl 12 1 false 11) (.P 5 (jm 3 12) .nil))))))
def Z0qw:LJ:=[oj 13 (.bs 5 0 1 [] []),jm 14 0,jz 15 14,jf 16 0 15,jl 17 1 false 16,oj 18 (.app 5 1 1 [.one (.int .u8 0)] 13 17),jm 2 18,jm 3 (ci 0)]
def d78:FnD:=⟨19,[.tmp 2,.tmp 3],(.sq [jm 2 (.const (.slice none 0 0)),jm 3 (ci 0)] (.seq (.sq [jm 4 0,jz 5 4,jf 6 1 5,jl 7 1 false 6,jb 8 .neq 7 (ci 0)] (.cond 8 (.seq (.draw Z0qv []) .ret) .skip)) (.sq Z0qw .ret)))⟩
theorem ok78:okF Tryz.prog 78 d78=true:=by kernel_rfl
def Z0py:LJ:=[jf 6 0 1,jl 7 1 false 6,jb 8 .lss 7 (ci 1),jm 9 8,.lg true 9 13 none [.op ⟨some 10,(some (9,false)),.fa 0 1⟩,.op ⟨some 11,(some (9,false)),.ld 1 false 10⟩,.op ⟨some 12,(some (9,false)),.bin .gtr 11 (ci 64)⟩] 12]
def d29:FnD:=⟨33,[.tmp 2],(.sq [jx 1 51 0,jm 2 (.const (.slice none 0 0))] (.seq (.sq Z0py (.cond 13 (.sq [jm 2 (.const (.slice none 0 0))] .ret) .skip)) (.sq [jc 14 74 [],jm 3 14] (.sq [jm 15 3,jc 16 76 [(ci 11)],jc 17 75 [15,16]] (.sq [jm 18 3,jf 19 0 1,jl 20 1 false 19,jv 21 .u32 20,jc 22 77 [18,21]] (.sq [jm 23 3,jf 24 1 1,oj 25 (.sla 32 1 24 none none none),jc 26 75 [23,25]] (.sq [jm 28 3,jc 29 78 [28],jm 27 29,je 30 27 0,je 31 27 1,jm 4 30,jm 5 31] (.sq [jm 32 4,jm 2 32] .ret))))))))⟩
theorem ok29:okF Tryz.prog 29 d29=true:=by kernel_rfl
def d149:FnD:=⟨22,[],(.sq [jm 5 0,jz 6 5,jf 7 1 6,jl 8 1 false 7,jb 9 .eql 8 (ci 0)] (.cond 9 (.sq [jm 4 (.const (.slice none 0 0))] (.sq [jm 10 4,jm 11 0,jz 12 11,jf 13 0 12,jl 14 1 false 13,oj 15 (.app 5 1 1 [.one (.int .u8 0)] 10 14),jm 4 15] (.ops [jm 16 0,jm 17 4,jm 18 1,oj 19 (.app 5 1 1 [.one (.int .u8 0)] 17 18),jz 20 16,jf 21 0 20,js' 1 21 19]))) .skip))⟩
theorem Z0nn:okF Tryz.prog 149 d149=true:=by kernel_rfl
def d79:FnD:=⟨7,[],(.ops [jm 4 0,jm 5 1,jc 6 149 [4,5]])⟩
theorem ok79:okF Tryz.prog 79 d79=true:=by kernel_rfl
def Z0r8:LJ:=[jm 3 0,jb 4 .lss 3 (ci 1),jm 5 4,.lg true 5 8 none [.op ⟨some 6,(some (5,false)),.mv 0⟩,.op ⟨some 7,(some (5,false)),.bin .gtr 6 (ci 255)⟩] 7]
def Z0r9:LJ:=[jm 9 0,jv 10 .u8 9,oj 11 (.bs 5 4 1 [.one (.int .u8 0),.one (.int .u8 0),.one (.int .u8 0),.one (.int .u8 0)] [(0,1,(c8 70)),(1,1,(c8 66)),(2,1,(c8 1)),(3,1,10)]),jm 2 11]
def d80:FnD:=⟨12,[.tmp 2],(.sq [jm 2 (.const (.slice none 0 0))] (.seq (.sq Z0r8 (.cond 8 (.sq [jm 2 (.const (.slice none 0 0))] .ret) .skip)) (.sq Z0r9 .ret)))⟩
theorem ok80:okF Tryz.prog 80 d80=true:=by kernel_rfl
def Z0gl:LJ:=[jm 3 0,jb 4 .quo 3 (.const (.int .u32 16777216)),jv 5 .u8 4,jm 6 0,jb 7 .quo 6 (.const (.int .u32 65536)),jv 8 .u8 7,jm 9 0,jb 10 .quo 9 (.const (.int .u32 256)),jv 11 .u8 10,jm 12 0,jv 13 .u8 12,oj 14 (.bs 5 4 1 [.one (.int .u8 0),.one (.int .u8 0),.one (.int .u8 0),.one (.int .u8 0)] [(0,1,5),(1,1,8),(2,1,11),(3,1,13)]),jm 2 14]
def d150:FnD:=⟨15,[.tmp 2],(.sq [jm 2 (.const (.slice none 0 0))] (.sq Z0gl .ret))⟩
theorem Z0no:okF Tryz.prog 150 d150=true:=by kernel_rfl
def d81:FnD:=⟨8,[],(.ops [jm 4 0,jm 5 1,jc 6 150 [5],jc 7 149 [4,6]])⟩
theorem ok81:okF Tryz.prog 81 d81=true:=by kernel_rfl
def Z0pz:LJ:=[jf 4 0 1,jl 5 1 false 4,jb 6 .lss 5 (ci 1),jm 7 6,.lg true 7 11 none [.op ⟨some 8,(some (7,false)),.fa 0 1⟩,.op ⟨some 9,(some (7,false)),.ld 1 false 8⟩,.op ⟨some 10,(some (7,false)),.bin .gtr 9 (ci 64)⟩] 10]
def d31:FnD:=⟨23,[.tmp 2],(.sq [jx 1 51 0,jm 2 (.const (.slice none 0 0))] (.seq (.sq Z0pz (.cond 11 (.sq [jm 2 (.const (.slice none 0 0))] .ret) .skip)) (.sq [ja 3 119 [.one (.slice none 0 0),.one (.int .i64 0)]] (.sq [jc 12 80 [(ci 11)],jc 13 79 [3,12]] (.sq [jf 14 0 1,jl 15 1 false 14,jv 16 .u32 15,jc 17 81 [3,16]] (.sq [jf 18 1 1,oj 19 (.sla 32 1 18 none none none),jc 20 79 [3,19]] (.sq [jf 21 0 3,jl 22 1 false 21,jm 2 22] .ret)))))))⟩
theorem ok31:okF Tryz.prog 31 d31=true:=by kernel_rfl
def r6_1:LJ:=[jl 20 32 true 4,jm 21 1,jl 22 32 true 6,jc 23 27 [20,21,22],jm 19 23,je 24 19 0,je 25 19 1,ja 9 51 [.one (.int .i64 0),.ints .u8 32 (replicate 32 0),.ints .u8 64 (replicate 64 0)],js' 97 9 24,jm 10 25]
def r6_2:LJ:=[jl 27 32 true 4,jm 28 1,jl 29 32 true 6,jc 30 28 [27,28,29],jm 26 30,je 31 26 0,je 32 26 1,ja 11 51 [.one (.int .i64 0),.ints .u8 32 (replicate 32 0),.ints .u8 64 (replicate 64 0)],js' 97 11 31,jm 12 32]
def r6_3:LJ:=[jl 33 97 true 9,jl 34 97 true 11,oj 35 (.eqa true [(.i .i64,1),(.i .u8,96)] 33 34),jm 36 35,.lg true 36 40 none [.op ⟨some 37,(some (36,false)),.mv 10⟩,.op ⟨some 38,(some (36,false)),.mv 12⟩,.op ⟨some 39,(some (36,false)),.beq true 37 38⟩] 39]
def r6_8:LJ:=[jm 47 13,jl 48 97 true 7,jc 49 31 [48],jc 50 30 [47,49],oj 51 (.un .not 50),jm 52 51,.op ⟨some 53,(some (52,false)),.mv 14⟩,.op ⟨some 54,(some (52,false)),.ld 97 true 11⟩,.op ⟨some 55,(some (52,false)),.call 31 [54]⟩,.op ⟨some 56,(some (52,false)),.call 30 [53,55]⟩,.op ⟨some 57,(some (52,false)),.un .not 56⟩,oj 58 (.pick 52 (.const (.bool true)) 57),jm 59 58,.op ⟨some 60,(some (59,false)),.mv 15⟩,.op ⟨some 61,(some (59,false)),.ld 97 true 7⟩,.op ⟨some 62,(some (59,false)),.call 31 [61]⟩,.op ⟨some 63,(some (59,false)),.call 30 [60,62]⟩,.op ⟨some 64,(some (59,false)),.un .not 63⟩,oj 65 (.pick 59 (.const (.bool true)) 64)]
def k6_1:IC:=(.ops [jm 72 13,jm 73 16,ji' 74 1 72 73,js' 1 74 (c8 51)])
def l6_1:IC:=(.seq (.sq [jm 66 16,jm 67 13,jn' 68 67,jb 69 .lss 66 68] (.cond 69 .skip (.exit 0))) (.seq (.block 1 k6_1) (.ops [jm 70 16,jb 71 .add 70 (ci 1),jm 16 71])))
def k6_0:IC:=(.loop l6_1)
def Z0qo:LJ:=[jm 80 17,oj 81 (.bs 5 1 1 [.one (.int .u8 0)] [(0,1,(c8 68))]),oj 82 (.app 5 1 1 [.one (.int .u8 0)] 80 81),jm 17 82]
def k6_3:IC:=(.ops Z0qo)
def l6_2:IC:=(.seq (.sq [jm 76 18,jb 77 .lss 76 (ci 200)] (.cond 77 .skip (.exit 2))) (.seq (.block 3 k6_3) (.ops [jm 78 18,jb 79 .add 78 (ci 1),jm 18 79])))
def k6_2:IC:=(.loop l6_2)
def Z0qp:LJ:=[jm 83 17,jn' 84 83,jm 85 13,jn' 86 85,jb 87 .add 86 (ci 200),jb 88 .eql 84 87,jm 89 88,.op ⟨some 90,(some (89,true)),.mv 14⟩,.op ⟨some 91,(some (89,true)),.ld 97 true 11⟩,.op ⟨some 92,(some (89,true)),.call 31 [91]⟩,.op ⟨some 93,(some (89,true)),.call 30 [90,92]⟩,oj 94 (.pick 89 93 (.const (.bool false))),jm 95 94,.op ⟨some 96,(some (95,true)),.mv 15⟩,.op ⟨some 97,(some (95,true)),.ld 97 true 7⟩,.op ⟨some 98,(some (95,true)),.call 31 [97]⟩,.op ⟨some 99,(some (95,true)),.call 30 [96,98]⟩,oj 100 (.pick 95 99 (.const (.bool false))),jm 101 100,.op ⟨some 102,(some (101,true)),.mv 13⟩,.op ⟨some 103,(some (101,true)),.mv 14⟩,.op ⟨some 104,(some (101,true)),.call 32 [102,103]⟩,oj 105 (.pick 101 104 (.const (.bool false))),jm 106 105,.op ⟨some 107,(some (106,true)),.mv 14⟩,.op ⟨some 108,(some (106,true)),.mv 15⟩,.op ⟨some 109,(some (106,true)),.call 32 [107,108]⟩,oj 110 (.pick 106 109 (.const (.bool false))),jm 8 110]
def d6:FnD:=⟨111,[.tmp 8],(.sq [jx 4 23 0,jx 6 29 2,jx 7 51 3,jm 8 (.const (.bool false))] (.sq r6_1 (.sq r6_2 (.seq (.sq r6_3 (.cond 40 (.sq [jm 8 (.const (.bool false))] .ret) .skip)) (.sq [jl 41 97 true 7,jc 42 29 [41],jm 13 42] (.sq [jl 43 97 true 9,jc 44 29 [43],jm 14 44] (.sq [jl 45 97 true 7,jc 46 29 [45],jm 15 46] (.seq (.sq r6_8 (.cond 65 (.sq [jm 8 (.const (.bool false))] .ret) .skip)) (.seq (.sq [jm 16 (ci 0)] (.block 0 k6_0)) (.sq [jm 75 13,jm 17 75] (.seq (.sq [jm 18 (ci 0)] (.block 2 k6_2)) (.sq Z0qp .ret))))))))))))⟩
def Z0q0:LJ:=[jm 4 3,jm 5 0,oj 6 (.app 51 97 104 [.one (.int .i64 0),.ints .u8 32 (replicate 32 0),.ints .u8 64 (replicate 64 0)] 4 5),jm 3 6]
def Z0q1:LJ:=[jm 7 3,jd 8 [.one (.int .i64 0),.ints .u8 32 (replicate 32 0),.ints .u8 64 (replicate 64 0)] [(0,1,(ci (-7)))],jd 9 [.one (.int .i64 0),.ints .u8 32 (replicate 32 0),.ints .u8 64 (replicate 64 0)] [(0,1,(ci (-8)))],oj 10 (.bs 51 2 97 [.one (.int .i64 0),.ints .u8 32 (replicate 32 0),.ints .u8 64 (replicate 64 0),.one (.int .i64 0),.ints .u8 32 (replicate 32 0),.ints .u8 64 (replicate 64 0)] [(0,97,8),(97,97,9)]),oj 11 (.app 51 97 104 [.one (.int .i64 0),.ints .u8 32 (replicate 32 0),.ints .u8 64 (replicate 64 0)] 7 10),jm 3 11]
def d33:FnD:=⟨16,[.tmp 2],(.sq [jm 2 (.const (.slice none 0 0))] (.sq [jm 3 (.const (.slice none 0 0))] (.sq Z0q0 (.sq Z0q1 (.sq [jm 12 3,jm 13 0,jn' 14 13,oj 15 (.sls 97 12 none (some 14) none),jm 2 15] .ret)))))⟩
theorem ok33:okF Tryz.prog 33 d33=true:=by kernel_rfl
def d82:FnD:=⟨6,[.tmp 4],(.sq [jx 2 29 0,jx 3 56 1,jm 4 (.const (.nilFunc))] (.sq [oj 5 (.mf 151 [2,3]),jm 4 5] .ret))⟩
theorem ok82:okF Tryz.prog 82 d82=true:=by kernel_rfl
def Z0gn:Sch:=(.P 1 (jm 12 0) (.P 2 (jm 13 5) (.P 3 (ji' 14 32 12 13) (.Q 0 (jl 11 32 true 3) (.Q 4 (jl 15 32 true 14) (.P 5 (oj 16 (.eqa false [(.i .u8,32)] 11 15)) .nil))))))
def Z0ay:IC:=(.sq [jm 10 8,jm 5 10] (.seq (.draw Z0gn []) (.cond 16 (.sq [jm 17 5,jm 4 17] .ret) .skip)))
def Z0dj:IC:=(.sq [jb 9 .lss 8 7] (.seq (.cond 9 .skip (.exit 0)) (.seq (.block 1 Z0ay) (.ops [jb 18 .add 8 (ci 1),jm 8 18]))))
def Z0ax:IC:=(.loop Z0dj)
def d152:FnD:=⟨19,[.tmp 4],(.sq [jx 3 29 1,jm 4 (ci 0)] (.seq (.sq [jm 6 0,jn' 7 6,jm 8 (ci 0)] (.block 0 Z0ax)) (.sq [jm 4 (ci (-1))] .ret)))⟩
theorem Z0nq:okF Tryz.prog 152 d152=true:=by kernel_rfl
def d83:FnD:=⟨9,[.tmp 4],(.sq [jx 3 29 1,jm 4 (.const (.bool false))] (.sq [jm 5 0,jl 6 32 true 3,jc 7 152 [5,6],jb 8 .geq 7 (ci 0),jm 4 8] .ret))⟩
theorem ok83:okF Tryz.prog 83 d83=true:=by kernel_rfl
def Z0q2:LJ:=[jl 12 32 true 2,oj 13 (.bs 29 1 32 [.ints .u8 32 (replicate 32 0)] [(0,32,12)]),ja 6 40 [.one (.slice none 0 0)],js' 1 6 13]
def Z0q3:LJ:=[ja 8 51 [.one (.int .i64 0),.ints .u8 32 (replicate 32 0),.ints .u8 64 (replicate 64 0)],js' 97 8 18]
def Z0q4:LJ:=[jf 19 0 8,jl 20 1 false 19,jl 21 1 false 6,jn' 22 21,jb 23 .neq 20 22,jm 24 23,.lg true 24 29 none [.op ⟨some 25,(some (24,false)),.ld 1 false 6⟩,.op ⟨some 26,(some (24,false)),.fa 1 8⟩,.op ⟨some 27,(some (24,false)),.ld 32 true 26⟩,.op ⟨some 28,(some (24,false)),.call 83 [25,27]⟩] 28]
def Z0q5:Sch:=(.P 3 (jf 33 33 8) (.Q 0 (jl 30 32 true 7) (.Q 1 (jl 31 97 true 8) (.Q 4 (jl 34 64 true 33) (.e 2 (oi 32 (.call 29 [31])) (.e 5 (oi 35 (.call 25 [30,32,34])) (.P 6 (oj 36 (.un .not 35)) .nil)))))))
def Z0id:LJ:=[jl 37 1 false 6,jf 38 1 8,jl 39 32 true 38,oj 40 (.bs 29 1 32 [.ints .u8 32 (replicate 32 0)] [(0,32,39)]),oj 41 (.app 29 32 32 [.ints .u8 32 (replicate 32 0)] 37 40),js' 1 6 41]
def Z0kb:IC:=(.seq (.sq Z0q4 (.cond 29 (.sq [js' 1 4 (.const (.slice none 0 0)),js' 1 5 (ci 171)] .ret) .skip)) (.seq (.seq (.draw Z0q5 []) (.cond 36 (.sq [js' 1 4 (.const (.slice none 0 0)),js' 1 5 (ci 110)] .ret) .skip)) (.ops Z0id)))
def Z0ka:IC:=(.rng 16 [17,18] (.sq [ja 7 29 [.ints .u8 32 (replicate 32 0)],js' 32 7 17] (.ops Z0q3)) (.block 1 Z0kb))
def d34:FnD:=⟨43,[.cell 4 1 false,.cell 5 1 false],(.sq [jx 2 29 0,ja 4 40 [.one (.slice none 0 0)],ja 5 35 [.one (.int .i64 0)]] (.seq (.sq [jm 9 1,jn' 10 9,jb 11 .gtr 10 (ci 64)] (.cond 11 (.sq [js' 1 4 (.const (.slice none 0 0)),js' 1 5 (ci 1)] .ret) .skip)) (.sq Z0q2 (.seq (.sq [jl 14 32 true 2,jm 15 1,jc 16 82 [14,15]] (.block 0 Z0ka)) (.sq [jl 42 1 false 6,js' 1 4 42,js' 1 5 (ci 0)] .ret)))))⟩
theorem ok34:okF Tryz.prog 34 d34=true:=by kernel_rfl
def Z0ra:Sch:=(.P 0 (jm 12 0) (.P 1 (jm 13 5) (.P 2 (ji' 14 32 12 13) (.Q 3 (jl 15 32 true 14) (.Q 4 (jl 16 32 true 3) (.P 5 (oj 17 (.eqa false [(.i .u8,32)] 15 16)) .nil))))))
def Z0l6:IC:=(.seq (.draw Z0ra []) (.cond 17 (.sq [jm 4 (.const (.bool true))] .ret) .skip))
def Z0m6:IC:=(.seq (.sq [jm 6 5,jm 7 0,jn' 8 7,jb 9 .lss 6 8] (.cond 9 .skip (.exit 0))) (.seq (.block 1 Z0l6) (.ops [jm 10 5,jb 11 .add 10 (ci 1),jm 5 11])))
def Z0l5:IC:=(.loop Z0m6)
def d84:FnD:=⟨18,[.tmp 4],(.sq [jx 3 29 1,jm 4 (.const (.bool false))] (.seq (.sq [jm 5 (ci 0)] (.block 0 Z0l5)) (.sq [jm 4 (.const (.bool false))] .ret)))⟩
theorem ok84:okF Tryz.prog 84 d84=true:=by kernel_rfl
def Z0q6:LJ:=[jm 20 1,jm 21 7,ji' 22 97 20 21,jl 23 97 true 22,ja 8 51 [.one (.int .i64 0),.ints .u8 32 (replicate 32 0),.ints .u8 64 (replicate 64 0)],js' 97 8 23]
def Z0q7:LJ:=[jf 24 0 8,jl 25 1 false 24,jm 26 7,jb 27 .add 26 (ci 1),jb 28 .neq 25 27,jm 29 28,.lg true 29 34 none [.op ⟨some 30,(some (29,false)),.mv 6⟩,.op ⟨some 31,(some (29,false)),.fa 1 8⟩,.op ⟨some 32,(some (29,false)),.ld 32 true 31⟩,.op ⟨some 33,(some (29,false)),.call 84 [30,32]⟩] 33]
def Z0ie:Sch:=(.P 0 (jm 35 6) (.P 1 (jm 36 7) (.P 2 (ji' 37 32 35 36) (.P 6 (jf 41 33 8) (.Q 3 (jl 38 32 true 37) (.Q 4 (jl 39 97 true 8) (.Q 7 (jl 42 64 true 41) (.e 5 (oi 40 (.call 31 [39])) (.e 8 (oi 43 (.call 26 [38,40,42])) (.P 9 (oj 44 (.un .not 43)) .nil))))))))))
def Z0if:LJ:=[jm 45 6,jf 46 1 8,jl 47 32 true 46,oj 48 (.bs 29 1 32 [.ints .u8 32 (replicate 32 0)] [(0,32,47)]),oj 49 (.app 29 32 32 [.ints .u8 32 (replicate 32 0)] 45 48),jm 6 49]
def Z0kd:IC:=(.sq Z0q6 (.seq (.sq Z0q7 (.cond 34 (.sq [jm 4 (.const (.slice none 0 0)),jm 5 (ci 171)] .ret) .skip)) (.seq (.seq (.draw Z0ie []) (.cond 44 (.sq [jm 4 (.const (.slice none 0 0)),jm 5 (ci 110)] .ret) .skip)) (.ops Z0if))))
def Z0ls:IC:=(.seq (.sq [jm 14 7,jm 15 1,jn' 16 15,jb 17 .lss 14 16] (.cond 17 .skip (.exit 0))) (.seq (.block 1 Z0kd) (.ops [jm 18 7,jb 19 .add 18 (ci 1),jm 7 19])))
def Z0kc:IC:=(.loop Z0ls)
def d35:FnD:=⟨51,[.tmp 4,.tmp 5],(.sq [jx 2 29 0,jm 4 (.const (.slice none 0 0)),jm 5 (ci 0)] (.seq (.sq [jm 9 1,jn' 10 9,jb 11 .gtr 10 (ci 64)] (.cond 11 (.sq [jm 4 (.const (.slice none 0 0)),jm 5 (ci 1)] .ret) .skip)) (.sq [jl 12 32 true 2,oj 13 (.bs 29 1 32 [.ints .u8 32 (replicate 32 0)] [(0,32,12)]),jm 6 13] (.seq (.sq [jm 7 (ci 0)] (.block 0 Z0kc)) (.sq [jm 50 6,jm 4 50,jm 5 (ci 0)] .ret)))))⟩
theorem ok35:okF Tryz.prog 35 d35=true:=by kernel_rfl
def Z0qa:Sch:=(.P 0 (jm 17 0) (.P 1 (jm 18 5) (.P 2 (ji' 19 97 17 18) (.P 4 (jm 21 1) (.P 5 (jm 22 5) (.P 6 (ji' 23 97 21 22) (.Q 3 (jl 20 97 true 19) (.Q 7 (jl 24 97 true 23) (.P 8 (oj 25 (.eqa true [(.i .i64,1),(.i .u8,96)] 20 24)) .nil)))))))))
def Z0ki:IC:=(.seq (.draw Z0qa []) (.cond 25 (.sq [jm 4 (.const (.bool false))] .ret) .skip))
def Z0lu:IC:=(.seq (.sq [jm 11 5,jm 12 0,jn' 13 12,jb 14 .lss 11 13] (.cond 14 .skip (.exit 0))) (.seq (.block 1 Z0ki) (.ops [jm 15 5,jb 16 .add 15 (ci 1),jm 5 16])))
def Z0kh:IC:=(.loop Z0lu)
def d43:FnD:=⟨26,[.tmp 4],(.sq [jm 4 (.const (.bool false))] (.seq (.sq [jm 6 0,jn' 7 6,jm 8 1,jn' 9 8,jb 10 .neq 7 9] (.cond 10 (.sq [jm 4 (.const (.bool false))] .ret) .skip)) (.seq (.sq [jm 5 (ci 0)] (.block 0 Z0kh)) (.sq [jm 4 (.const (.bool true))] .ret))))⟩
theorem ok43:okF Tryz.prog 43 d43=true:=by kernel_rfl
def Z0q8:LJ:=[jm 13 0,jm 14 1,jc 15 43 [13,14],jm 16 15,.lg false 16 23 none [.op ⟨some 17,(some (16,true)),.mv 6⟩,.op ⟨some 18,(some (16,true)),.mv 5⟩,.op ⟨some 19,(some (16,true)),.ias 97 17 18⟩,.op ⟨some 20,(some (16,true)),.fa 0 19⟩,.op ⟨some 21,(some (16,true)),.ld 1 false 20⟩,.op ⟨some 22,(some (16,true)),.bin .eql 21 (ci (-7))⟩] 22,jm 24 23,.lg false 24 32 none [.op ⟨some 25,(some (24,true)),.mv 6⟩,.op ⟨some 26,(some (24,true)),.mv 5⟩,.op ⟨some 27,(some (24,true)),.bin .add 26 (ci 1)⟩,.op ⟨some 28,(some (24,true)),.ias 97 25 27⟩,.op ⟨some 29,(some (24,true)),.fa 0 28⟩,.op ⟨some 30,(some (24,true)),.ld 1 false 29⟩,.op ⟨some 31,(some (24,true)),.bin .eql 30 (ci (-8))⟩] 31,jm 4 32]
def d40:FnD:=⟨33,[.tmp 4],(.sq [jm 4 (.const (.bool false))] (.sq [jm 7 1,jn' 8 7,jm 5 8] (.sq [jm 9 0,jm 10 5,jb 11 .add 10 (ci 2),oj 12 (.sls 97 9 none (some 11) none),jm 6 12] (.sq Z0q8 .ret))))⟩
theorem ok40:okF Tryz.prog 40 d40=true:=by kernel_rfl
def r7_4:LJ:=[jm 37 14,oj 38 (.bs 5 1 1 [.one (.int .u8 0)] [(0,1,(c8 165))]),oj 39 (.app 5 1 1 [.one (.int .u8 0)] 37 38),jm 14 39]
def r7_9:LJ:=[jm 62 15,jm 63 17,jc 64 36 [62,63],oj 65 (.un .not 64),jm 66 65,.lg true 66 70 none [.op ⟨some 67,(some (66,false)),.mv 16⟩,.op ⟨some 68,(some (66,false)),.mv 18⟩,.op ⟨some 69,(some (66,false)),.bin .neq 67 68⟩] 69]
def k7_1:IC:=(.ops [jm 77 15,jm 78 21,jd 79 [.ints .u8 32 (replicate 32 0)] [(0,1,(c8 1))],ji' 80 32 77 78,js' 32 80 79])
def l7_1:IC:=(.seq (.sq [jm 71 21,jm 72 15,jn' 73 72,jb 74 .lss 71 73] (.cond 74 .skip (.exit 0))) (.seq (.block 1 k7_1) (.ops [jm 75 21,jb 76 .add 75 (ci 1),jm 21 76])))
def k7_0:IC:=(.loop l7_1)
def Z0qx:LJ:=[jm 86 22,jd 87 [.ints .u8 32 (replicate 32 0)] [(0,1,(c8 2))],oj 88 (.bs 29 1 32 [.ints .u8 32 (replicate 32 0)] [(0,32,87)]),oj 89 (.app 29 32 32 [.ints .u8 32 (replicate 32 0)] 86 88),jm 22 89]
def k7_3:IC:=(.ops Z0qx)
def l7_2:IC:=(.seq (.sq [jm 82 23,jb 83 .lss 82 (ci 32)] (.cond 83 .skip (.exit 2))) (.seq (.block 3 k7_3) (.ops [jm 84 23,jb 85 .add 84 (ci 1),jm 23 85])))
def k7_2:IC:=(.loop l7_2)
def Z0qy:LJ:=[jm 97 22,jn' 98 97,jm 99 17,jn' 100 99,jb 101 .add 100 (ci 32),jb 102 .neq 98 101,jm 103 102,.lg true 103 108 none [.op ⟨some 104,(some (103,false)),.mv 19⟩,.op ⟨some 105,(some (103,false)),.mv 17⟩,.op ⟨some 106,(some (103,false)),.call 36 [104,105]⟩,.op ⟨some 107,(some (103,false)),.un .not 106⟩] 107,jm 109 108,.op ⟨some 110,(some (109,false)),.mv 15⟩,.op ⟨some 111,(some (109,false)),.mv 19⟩,.op ⟨some 112,(some (109,false)),.call 38 [110,111]⟩,.op ⟨some 113,(some (109,false)),.un .not 112⟩,oj 114 (.pick 109 (.const (.bool true)) 113),jm 115 114,.lg true 115 125 none [.op ⟨some 116,(some (115,false)),.mv 24⟩,.op ⟨some 117,(some (115,false)),.ld 32 true 6⟩,.op ⟨some 118,(some (115,false)),.mv 1⟩,.op ⟨some 119,(some (115,false)),.mv 2⟩,.op ⟨some 120,(some (115,false)),.mv 3⟩,.op ⟨some 121,(some (115,false)),.mv 4⟩,.op ⟨some 122,(some (115,false)),.ld 64 true 11⟩,.op ⟨some 123,(some (115,false)),.call 39 [117,118,119,120,121,122]⟩,.op ⟨some 124,(some (115,false)),.bin .neq 116 123⟩] 124,jm 126 125,.lg true 126 131 none [.op ⟨some 127,(some (126,false)),.mv 13⟩,.op ⟨some 128,(some (126,false)),.mv 1⟩,.op ⟨some 129,(some (126,false)),.call 40 [127,128]⟩,.op ⟨some 130,(some (126,false)),.un .not 129⟩] 130,jm 132 131,.lg true 132 137 none [.op ⟨some 133,(some (132,false)),.mv 14⟩,.op ⟨some 134,(some (132,false)),.mv 4⟩,.op ⟨some 135,(some (132,false)),.call 30 [133,134]⟩,.op ⟨some 136,(some (132,false)),.un .not 135⟩] 136,jm 138 137,.lg true 138 149 none [.op ⟨some 139,(some (138,false)),.mv 14⟩,.op ⟨some 140,(some (138,false)),.mv 4⟩,.op ⟨some 141,(some (138,false)),.len 140⟩,.op ⟨some 142,(some (138,false)),.bin .add 141 (ci 1)⟩,.op ⟨some 143,(some (138,false)),.sls 1 139 none (some 142) none⟩,.op ⟨some 144,(some (138,false)),.mv 4⟩,.op ⟨some 145,(some (138,false)),.len 144⟩,.op ⟨some 146,(some (138,false)),.ias 1 143 145⟩,.op ⟨some 147,(some (138,false)),.ld 1 false 146⟩,.op ⟨some 148,(some (138,false)),.bin .neq 147 (c8 165)⟩] 148]
def Z0qz:LJ:=[jm 156 14,jm 157 26,jm 158 14,jm 159 26,ji' 160 1 158 159,jl 161 1 false 160,jb 162 .xor 161 (c8 64),ji' 163 1 156 157,js' 1 163 162]
def Z0r0:LJ:=[jm 164 25,jm 165 14,jm 166 26,ji' 167 1 165 166,jl 168 1 false 167,oj 169 (.bs 5 1 1 [.one (.int .u8 0)] [(0,1,168)]),oj 170 (.app 5 1 1 [.one (.int .u8 0)] 164 169),jm 25 170]
def k7_5:IC:=(.sq Z0qz (.ops Z0r0))
def l7_3:IC:=(.seq (.sq [jm 150 26,jm 151 14,jn' 152 151,jb 153 .lss 150 152] (.cond 153 .skip (.exit 4))) (.seq (.block 5 k7_5) (.ops [jm 154 26,jb 155 .add 154 (ci 1),jm 26 155])))
def k7_4:IC:=(.loop l7_3)
def Z0r1:LJ:=[jl 171 32 true 6,jm 172 13,jm 173 2,jm 174 3,jm 175 14,jl 176 64 true 11,jc 177 37 [171,172,173,174,175,176],jm 24 177]
def Z0r2:LJ:=[jm 178 24,jl 179 32 true 6,jm 180 1,jm 181 2,jm 182 3,jm 183 25,jl 184 64 true 11,jc 185 39 [179,180,181,182,183,184],jb 186 .neq 178 185,jm 187 186,.lg true 187 192 none [.op ⟨some 188,(some (187,false)),.mv 14⟩,.op ⟨some 189,(some (187,false)),.mv 25⟩,.op ⟨some 190,(some (187,false)),.call 30 [188,189]⟩,.op ⟨some 191,(some (187,false)),.un .not 190⟩] 191]
def Z0r3:LJ:=[jm 196 13,jm 197 1,jn' 198 197,jb 199 .sub 198 (ci 1),jm 200 1,ji' 201 97 200 (ci 0),jf 202 1 201,jl 203 32 true 202,ji' 204 97 196 199,jf 205 1 204,js' 32 205 203]
def Z0r4:LJ:=[jm 206 27,jm 207 13,oj 208 (.app 51 97 104 [.one (.int .i64 0),.ints .u8 32 (replicate 32 0),.ints .u8 64 (replicate 64 0)] 206 207),jm 27 208]
def Z0r5:LJ:=[jm 221 28,jm 222 30,jc 223 36 [221,222],oj 224 (.un .not 223),jm 225 224,.lg true 225 229 none [.op ⟨some 226,(some (225,false)),.mv 29⟩,.op ⟨some 227,(some (225,false)),.mv 31⟩,.op ⟨some 228,(some (225,false)),.bin .neq 226 227⟩] 228,jm 230 229,.lg true 230 235 none [.op ⟨some 231,(some (230,false)),.mv 13⟩,.op ⟨some 232,(some (230,false)),.mv 27⟩,.op ⟨some 233,(some (230,false)),.call 40 [231,232]⟩,.op ⟨some 234,(some (230,false)),.un .not 233⟩] 234]
def Z0r6:LJ:=[jl 236 32 true 6,jm 237 13,jm 238 2,jm 239 3,jm 240 14,jl 241 64 true 11,jc 242 37 [236,237,238,239,240,241],jm 24 242]
def Z0r7:LJ:=[jm 243 24,jl 244 32 true 6,jm 245 27,jm 246 2,jm 247 3,jm 248 25,jl 249 64 true 11,jc 250 39 [244,245,246,247,248,249],jb 251 .eql 243 250,jm 252 251,.lg false 252 256 none [.op ⟨some 253,(some (252,true)),.mv 13⟩,.op ⟨some 254,(some (252,true)),.mv 27⟩,.op ⟨some 255,(some (252,true)),.call 40 [253,254]⟩] 255,jm 12 256]
def d7:FnD:=⟨257,[.tmp 12],(.sq [jx 6 29 0,jx 11 27 5,jm 12 (.const (.bool false))] (.sq [jm 32 1,jc 33 33 [32],jm 13 33] (.sq [jm 14 (.const (.slice none 0 0))] (.sq [jm 34 14,jm 35 4,oj 36 (.app 5 1 1 [.one (.int .u8 0)] 34 35),jm 14 36] (.sq r7_4 (.sq [jm 40 14,jm 41 4,jn' 42 41,oj 43 (.sls 1 40 none (some 42) none),jm 14 43] (.sq [jl 45 32 true 6,jm 46 13,jc 47 34 [45,46],jm 44 47,je 48 44 0,je 49 44 1,jm 15 48,jm 16 49] (.sq [jl 51 32 true 6,jm 52 1,jc 53 35 [51,52],jm 50 53,je 54 50 0,je 55 50 1,jm 17 54,jm 18 55] (.sq [jl 57 32 true 6,jm 58 13,jc 59 34 [57,58],jm 56 59,je 60 56 0,je 61 56 1,jm 19 60,jm 20 61] (.seq (.sq r7_9 (.cond 70 (.sq [jm 12 (.const (.bool false))] .ret) .skip)) (.seq (.sq [jm 21 (ci 0)] (.block 0 k7_0)) (.sq [jm 81 15,jm 22 81] (.seq (.sq [jm 23 (ci 0)] (.block 2 k7_2)) (.sq [jl 90 32 true 6,jm 91 13,jm 92 2,jm 93 3,jm 94 14,jl 95 64 true 11,jc 96 37 [90,91,92,93,94,95],jm 24 96] (.seq (.sq Z0qy (.cond 149 (.sq [jm 12 (.const (.bool false))] .ret) .skip)) (.sq [jm 25 (.const (.slice none 0 0))] (.seq (.sq [jm 26 (ci 0)] (.block 4 k7_4)) (.sq Z0r1 (.seq (.sq Z0r2 (.cond 192 (.sq [jm 12 (.const (.bool false))] .ret) .skip)) (.seq (.sq [jm 193 1,jn' 194 193,jb 195 .eql 194 (ci 0)] (.cond 195 (.sq [jm 12 (.const (.bool true))] .ret) .skip)) (.sq Z0r3 (.sq [jm 27 (.const (.slice none 0 0))] (.sq Z0r4 (.sq [jl 210 32 true 6,jm 211 13,jc 212 34 [210,211],jm 209 212,je 213 209 0,je 214 209 1,jm 28 213,jm 29 214] (.sq [jl 216 32 true 6,jm 217 27,jc 218 35 [216,217],jm 215 218,je 219 215 0,je 220 215 1,jm 30 219,jm 31 220] (.seq (.sq Z0r5 (.cond 235 (.sq [jm 12 (.const (.bool false))] .ret) .skip)) (.sq Z0r6 (.sq Z0r7 .ret))))))))))))))))))))))))))))⟩
def Z0rb:LJ:=[jm 11 9,ji' 12 97 7 9,jl 13 97 true 12,ja 6 51 [.one (.int .i64 0),.ints .u8 32 (replicate 32 0),.ints .u8 64 (replicate 64 0)],jm 5 11,js' 97 6 13]
def Z0rc:Sch:=(.P 0 (jm 14 5) (.P 1 (jm 15 1) (.P 2 (jn' 16 15) (.P 3 (jb 17 .geq 14 16) (.P 4 (jm 18 17) (.q [5,6,7,8,9,10,11] (.lg true 18 25 none [.op ⟨some 19,(some (18,false)),.ld 97 true 6⟩,.op ⟨some 20,(some (18,false)),.mv 1⟩,.op ⟨some 21,(some (18,false)),.mv 5⟩,.op ⟨some 22,(some (18,false)),.ias 97 20 21⟩,.op ⟨some 23,(some (18,false)),.ld 97 true 22⟩,.op ⟨some 24,(some (18,false)),.eqa true [(.i .i64,1),(.i .u8,96)] 19 23⟩] 24) .nil))))))
def Z0l8:IC:=(.sq Z0rb (.seq (.draw Z0rc []) (.cond 25 (.sq [jm 4 (.const (.bool false))] .ret) .skip)))
def Z0m7:IC:=(.sq [jb 10 .lss 9 8] (.seq (.cond 10 .skip (.exit 0)) (.seq (.block 1 Z0l8) (.ops [jb 26 .add 9 (ci 1),jm 9 26]))))
def Z0l7:IC:=(.loop Z0m7)
def d85:FnD:=⟨27,[.tmp 4],(.sq [jm 4 (.const (.bool false))] (.seq (.sq [jm 7 0,jn' 8 7,jm 9 (ci 0)] (.block 0 Z0l7)) (.sq [jm 4 (.const (.bool true))] .ret)))⟩
theorem ok85:okF Tryz.prog 85 d85=true:=by kernel_rfl
def Z0rd:LJ:=[oj 5 (.bs 51 0 97 [] []),jm 6 0,oj 7 (.app 51 97 104 [.one (.int .i64 0),.ints .u8 32 (replicate 32 0),.ints .u8 64 (replicate 64 0)] 5 6),jm 2 7]
def d86:FnD:=⟨8,[.tmp 2],(.sq [jm 2 (.const (.slice none 0 0))] (.seq (.sq [jm 3 0,oj 4 (.isn false 3)] (.cond 4 (.sq [jm 2 (.const (.slice none 0 0))] .ret) .skip)) (.sq Z0rd .ret)))⟩
theorem ok86:okF Tryz.prog 86 d86=true:=by kernel_rfl
def Z0q9:LJ:=[jm 12 1,jm 13 2,oj 14 (.bs 56 2 1 [.one (.slice none 0 0),.one (.slice none 0 0)] [(0,1,12),(1,1,13)]),jn' 15 14,jm 16 (ci 0)]
def Z0kf:IC:=(.sq [ji' 18 1 14 16,jl 19 1 false 18,jm 9 19] (.sq [jl 21 32 true 3,jm 22 9,jc 23 34 [21,22],jm 20 23,je 24 20 0,je 25 20 1,jm 10 24,jm 11 25] (.sq [jm 26 11,jb 27 .neq 26 (ci 0)] (.cond 27 (.sq [jm 28 11,jm 6 (.const (.slice none 0 0)),jm 7 28] .ret) .skip))))
def Z0lt:IC:=(.sq [jb 17 .lss 16 15] (.seq (.cond 17 .skip (.exit 0)) (.seq (.block 1 Z0kf) (.ops [jb 29 .add 16 (ci 1),jm 16 29]))))
def Z0ke:IC:=(.loop Z0lt)
def Z0kg:IC:=(.sq [jm 31 1,jm 32 2,jc 33 85 [31,32],jm 30 33] (.cond 30 (.sq [jm 34 2,jc 35 86 [34],jm 6 35,jm 7 (ci 0)] .ret) (.sq [jm 37 2,jm 38 1,jc 39 85 [37,38],jm 36 39] (.cond 36 (.sq [jm 40 1,jc 41 86 [40],jm 6 41,jm 7 (ci 0)] .ret) .skip))))
def d41:FnD:=⟨42,[.tmp 6,.tmp 7],(.sq [jx 3 29 0,jm 6 (.const (.slice none 0 0)),jm 7 (ci 0)] (.seq (.sq Z0q9 (.block 0 Z0ke)) (.seq (.block 2 Z0kg) (.sq [jm 6 (.const (.slice none 0 0)),jm 7 (ci 171)] .ret))))⟩
theorem ok41:okF Tryz.prog 41 d41=true:=by kernel_rfl
def Z0re:Sch:=(.P 0 (jm 17 0) (.P 1 (jm 18 5) (.P 2 (ji' 19 97 17 18) (.P 4 (jm 21 1) (.P 5 (jm 22 5) (.P 6 (ji' 23 97 21 22) (.Q 3 (jl 20 97 true 19) (.Q 7 (jl 24 97 true 23) (.P 8 (oj 25 (.eqa true [(.i .i64,1),(.i .u8,96)] 20 24)) .nil)))))))))
def Z0la:IC:=(.seq (.draw Z0re []) (.cond 25 (.sq [jm 4 (.const (.bool false))] .ret) .skip))
def Z0m8:IC:=(.seq (.sq [jm 11 5,jm 12 0,jn' 13 12,jb 14 .lss 11 13] (.cond 14 .skip (.exit 0))) (.seq (.block 1 Z0la) (.ops [jm 15 5,jb 16 .add 15 (ci 1),jm 5 16])))
def Z0l9:IC:=(.loop Z0m8)
def d87:FnD:=⟨26,[.tmp 4],(.sq [jm 4 (.const (.bool false))] (.seq (.sq [jm 6 0,jn' 7 6,jm 8 1,jn' 9 8,jb 10 .gtr 7 9] (.cond 10 (.sq [jm 4 (.const (.bool false))] .ret) .skip)) (.seq (.sq [jm 5 (ci 0)] (.block 0 Z0l9)) (.sq [jm 4 (.const (.bool true))] .ret))))⟩
theorem ok87:okF Tryz.prog 87 d87=true:=by kernel_rfl
def d42:FnD:=⟨38,[.tmp 6,.tmp 7],(.sq [jx 3 29 0,jm 6 (.const (.slice none 0 0)),jm 7 (ci 0)] (.sq [jl 13 32 true 3,jm 14 1,jc 15 35 [13,14],jm 12 15,je 16 12 0,je 17 12 1,jm 8 16,jm 9 17] (.seq (.sq [jm 18 9,jb 19 .neq 18 (ci 0)] (.cond 19 (.sq [jm 20 9,jm 6 (.const (.slice none 0 0)),jm 7 20] .ret) .skip)) (.sq [jl 22 32 true 3,jm 23 2,jc 24 35 [22,23],jm 21 24,je 25 21 0,je 26 21 1,jm 10 25,jm 11 26] (.seq (.sq [jm 27 11,jb 28 .neq 27 (ci 0)] (.cond 28 (.sq [jm 29 11,jm 6 (.const (.slice none 0 0)),jm 7 29] .ret) .skip)) (.seq (.sq [jm 30 1,jm 31 2,jc 32 87 [30,31]] (.cond 32 (.sq [jm 33 2,jm 6 33,jm 7 (ci 0)] .ret) .skip)) (.seq (.sq [jm 34 2,jm 35 1,jc 36 87 [34,35]] (.cond 36 (.sq [jm 37 1,jm 6 37,jm 7 (ci 0)] .ret) .skip)) (.sq [jm 6 (.const (.slice none 0 0)),jm 7 (ci 171)] .ret))))))))⟩
theorem ok42:okF Tryz.prog 42 d42=true:=by kernel_rfl
def Z0qb:LJ:=[jm 16 5,jd 17 [.one (.int .i64 0),.ints .u8 32 (replicate 32 0),.ints .u8 64 (replicate 64 0)] [(0,1,(ci (-21)))],oj 18 (.bs 51 1 97 [.one (.int .i64 0),.ints .u8 32 (replicate 32 0),.ints .u8 64 (replicate 64 0)] [(0,97,17)]),oj 19 (.app 51 97 104 [.one (.int .i64 0),.ints .u8 32 (replicate 32 0),.ints .u8 64 (replicate 64 0)] 16 18),jm 5 19]
def Z0kk:IC:=(.ops Z0qb)
def Z0lv:IC:=(.seq (.sq [jm 12 7,jb 13 .lss 12 (ci 64)] (.cond 13 .skip (.exit 0))) (.seq (.block 1 Z0kk) (.ops [jm 14 7,jb 15 .add 14 (ci 1),jm 7 15])))
def Z0kj:IC:=(.loop Z0lv)
def Z0ig:LJ:=[jm 24 6,jd 25 [.one (.int .i64 0),.ints .u8 32 (replicate 32 0),.ints .u8 64 (replicate 64 0)] [(0,1,(ci (-22)))],oj 26 (.bs 51 1 97 [.one (.int .i64 0),.ints .u8 32 (replicate 32 0),.ints .u8 64 (replicate 64 0)] [(0,97,25)]),oj 27 (.app 51 97 104 [.one (.int .i64 0),.ints .u8 32 (replicate 32 0),.ints .u8 64 (replicate 64 0)] 24 26),jm 6 27]
def Z0km:IC:=(.ops Z0ig)
def Z0lw:IC:=(.seq (.sq [jm 20 8,jb 21 .lss 20 (ci 64)] (.cond 21 .skip (.exit 2))) (.seq (.block 3 Z0km) (.ops [jm 22 8,jb 23 .add 22 (ci 1),jm 8 23])))
def Z0kl:IC:=(.loop Z0lw)
def Z0ih:LJ:=[jm 36 5,jm 37 9,ji' 38 97 36 37,jl 39 97 true 38,jd 40 [.one (.int .i64 0),.ints .u8 32 (replicate 32 0),.ints .u8 64 (replicate 64 0)] [(0,1,(ci (-21)))],oj 41 (.eqa true [(.i .i64,1),(.i .u8,96)] 39 40)]
def Z0ko:IC:=(.sq Z0ih (.cond 41 (.sq [jm 4 (.const (.bool false))] .ret) .skip))
def Z0lx:IC:=(.seq (.sq [jm 30 9,jm 31 5,jn' 32 31,jb 33 .lss 30 32] (.cond 33 .skip (.exit 4))) (.seq (.block 5 Z0ko) (.ops [jm 34 9,jb 35 .add 34 (ci 1),jm 9 35])))
def Z0kn:IC:=(.loop Z0lx)
def d44:FnD:=⟨48,[.tmp 4],(.sq [jm 4 (.const (.bool false))] (.sq [jm 10 0,jm 5 10] (.sq [jm 11 1,jm 6 11] (.seq (.sq [jm 7 (ci 0)] (.block 0 Z0kj)) (.seq (.sq [jm 8 (ci 0)] (.block 2 Z0kl)) (.seq (.sq [jm 28 0,jn' 29 28,jm 9 29] (.block 4 Z0kn)) (.sq [jm 42 6,jn' 43 42,jm 44 1,jn' 45 44,jb 46 .add 45 (ci 64),jb 47 .eql 43 46,jm 4 47] .ret)))))))⟩
theorem ok44:okF Tryz.prog 44 d44=true:=by kernel_rfl
def Z0qc:LJ:=[jm 15 0,jm 16 4,ji' 17 97 15 16,jl 18 97 true 17,ja 5 51 [.one (.int .i64 0),.ints .u8 32 (replicate 32 0),.ints .u8 64 (replicate 64 0)],js' 97 5 18]
def Z0qd:LJ:=[jm 19 0,jm 20 4,jm 21 0,jm 22 3,jb 23 .sub 22 (ci 1),jm 24 4,jb 25 .sub 23 24,ji' 26 97 21 25,jl 27 97 true 26,ji' 28 97 19 20,js' 97 28 27]
def Z0kq:IC:=(.sq Z0qc (.sq Z0qd (.ops [jm 29 0,jm 30 3,jb 31 .sub 30 (ci 1),jm 32 4,jb 33 .sub 31 32,jl 34 97 true 5,ji' 35 97 29 33,js' 97 35 34])))
def Z0ly:IC:=(.seq (.sq [jm 9 4,jm 10 3,jb 11 .quo 10 (ci 2),jb 12 .lss 9 11] (.cond 12 .skip (.exit 0))) (.seq (.block 1 Z0kq) (.ops [jm 13 4,jb 14 .add 13 (ci 1),jm 4 14])))
def Z0kp:IC:=(.loop Z0ly)
def Z0qe:LJ:=[jm 36 6,jm 37 0,oj 38 (.app 51 97 104 [.one (.int .i64 0),.ints .u8 32 (replicate 32 0),.ints .u8 64 (replicate 64 0)] 36 37),jm 2 38]
def d45:FnD:=⟨39,[.tmp 2],(.sq [jm 2 (.const (.slice none 0 0))] (.sq [jm 7 0,jn' 8 7,jm 3 8] (.seq (.sq [jm 4 (ci 0)] (.block 0 Z0kp)) (.sq [jm 6 (.const (.slice none 0 0))] (.sq Z0qe .ret)))))⟩
theorem ok45:okF Tryz.prog 45 d45=true:=by kernel_rfl
def r8_6:LJ:=[jm 45 9,jm 46 11,jc 47 43 [45,46],oj 48 (.un .not 47),jm 49 48,.lg true 49 53 none [.op ⟨some 50,(some (49,false)),.mv 10⟩,.op ⟨some 51,(some (49,false)),.mv 12⟩,.op ⟨some 52,(some (49,false)),.bin .neq 50 51⟩] 52]
def Z0rf:LJ:=[jm 60 9,jm 61 15,jd 62 [.one (.int .i64 0),.ints .u8 32 (replicate 32 0),.ints .u8 64 (replicate 64 0)] [(0,1,(ci (-9)))],ji' 63 97 60 61,js' 97 63 62]
def k8_1:IC:=(.ops Z0rf)
def l8_1:IC:=(.seq (.sq [jm 54 15,jm 55 9,jn' 56 55,jb 57 .lss 54 56] (.cond 57 .skip (.exit 0))) (.seq (.block 1 k8_1) (.ops [jm 58 15,jb 59 .add 58 (ci 1),jm 15 59])))
def k8_0:IC:=(.loop l8_1)
def Z0rg:LJ:=[jm 69 16,jd 70 [.one (.int .i64 0),.ints .u8 32 (replicate 32 0),.ints .u8 64 (replicate 64 0)] [(0,1,(ci (-10)))],oj 71 (.bs 51 1 97 [.one (.int .i64 0),.ints .u8 32 (replicate 32 0),.ints .u8 64 (replicate 64 0)] [(0,97,70)]),oj 72 (.app 51 97 104 [.one (.int .i64 0),.ints .u8 32 (replicate 32 0),.ints .u8 64 (replicate 64 0)] 69 71),jm 16 72]
def k8_3:IC:=(.ops Z0rg)
def l8_2:IC:=(.seq (.sq [jm 65 17,jb 66 .lss 65 (ci 8)] (.cond 66 .skip (.exit 2))) (.seq (.block 3 k8_3) (.ops [jm 67 17,jb 68 .add 67 (ci 1),jm 17 68])))
def k8_2:IC:=(.loop l8_2)
def Z0rh:LJ:=[jm 73 16,jn' 74 73,jm 75 11,jn' 76 75,jb 77 .add 76 (ci 8),jb 78 .neq 74 77,jm 79 78,.lg true 79 84 none [.op ⟨some 80,(some (79,false)),.mv 13⟩,.op ⟨some 81,(some (79,false)),.mv 11⟩,.op ⟨some 82,(some (79,false)),.call 43 [80,81]⟩,.op ⟨some 83,(some (79,false)),.un .not 82⟩] 83,jm 85 84,.lg true 85 90 none [.op ⟨some 86,(some (85,false)),.mv 7⟩,.op ⟨some 87,(some (85,false)),.mv 1⟩,.op ⟨some 88,(some (85,false)),.call 40 [86,87]⟩,.op ⟨some 89,(some (85,false)),.un .not 88⟩] 89,jm 91 90,.lg true 91 96 none [.op ⟨some 92,(some (91,false)),.mv 8⟩,.op ⟨some 93,(some (91,false)),.mv 2⟩,.op ⟨some 94,(some (91,false)),.call 40 [92,93]⟩,.op ⟨some 95,(some (91,false)),.un .not 94⟩] 95,jm 97 96,.op ⟨some 98,(some (97,false)),.mv 9⟩,.op ⟨some 99,(some (97,false)),.mv 13⟩,.op ⟨some 100,(some (97,false)),.call 44 [98,99]⟩,.op ⟨some 101,(some (97,false)),.un .not 100⟩,oj 102 (.pick 97 (.const (.bool true)) 101)]
def Z0ri:LJ:=[jl 108 32 true 3,jm 109 7,jm 110 8,jc 111 41 [108,109,110],jm 107 111,je 112 107 0,je 113 107 1,jm 9 112,jm 10 113]
def Z0rj:LJ:=[jl 115 32 true 3,jm 116 18,jm 117 19,jc 118 42 [115,116,117],jm 114 118,je 119 114 0,je 120 114 1,jm 11 119,jm 12 120]
def Z0rk:LJ:=[jm 121 9,jm 122 11,jc 123 43 [121,122],jm 124 123,.lg false 124 128 none [.op ⟨some 125,(some (124,true)),.mv 10⟩,.op ⟨some 126,(some (124,true)),.mv 12⟩,.op ⟨some 127,(some (124,true)),.bin .eql 125 126⟩] 127,jm 129 128,.lg false 129 133 none [.op ⟨some 130,(some (129,true)),.mv 7⟩,.op ⟨some 131,(some (129,true)),.mv 18⟩,.op ⟨some 132,(some (129,true)),.call 40 [130,131]⟩] 132,jm 134 133,.lg false 134 138 none [.op ⟨some 135,(some (134,true)),.mv 8⟩,.op ⟨some 136,(some (134,true)),.mv 19⟩,.op ⟨some 137,(some (134,true)),.call 40 [135,136]⟩] 137,jm 6 138]
def d8:FnD:=⟨139,[.tmp 6],(.sq [jx 3 29 0,jm 6 (.const (.bool false))] (.sq [jm 20 1,jc 21 33 [20],jm 7 21] (.sq [jm 22 2,jc 23 33 [22],jm 8 23] (.sq [jl 25 32 true 3,jm 26 7,jm 27 8,jc 28 41 [25,26,27],jm 24 28,je 29 24 0,je 30 24 1,jm 9 29,jm 10 30] (.sq [jl 32 32 true 3,jm 33 1,jm 34 2,jc 35 42 [32,33,34],jm 31 35,je 36 31 0,je 37 31 1,jm 11 36,jm 12 37] (.sq [jl 39 32 true 3,jm 40 7,jm 41 8,jc 42 41 [39,40,41],jm 38 42,je 43 38 0,je 44 38 1,jm 13 43,jm 14 44] (.seq (.sq r8_6 (.cond 53 (.sq [jm 6 (.const (.bool false))] .ret) .skip)) (.seq (.sq [jm 15 (ci 0)] (.block 0 k8_0)) (.sq [jm 64 9,jm 16 64] (.seq (.sq [jm 17 (ci 0)] (.block 2 k8_2)) (.seq (.sq Z0rh (.cond 102 (.sq [jm 6 (.const (.bool false))] .ret) .skip)) (.sq [jm 103 7,jc 104 45 [103],jm 18 104] (.sq [jm 105 8,jc 106 45 [105],jm 19 106] (.sq Z0ri (.sq Z0rj (.sq Z0rk .ret))))))))))))))))⟩
theorem ok8:okF Tryz.prog 8 d8=true:=by kernel_rfl
def r9_7:LJ:=[jm 51 10,jb 52 .neq 51 (ci 0),jm 53 52,.lg true 53 56 none [.op ⟨some 54,(some (53,false)),.mv 12⟩,.op ⟨some 55,(some (53,false)),.bin .neq 54 (ci 0)⟩] 55]
def r9_8:LJ:=[jm 57 14,jb 58 .neq 57 (ci 0),jm 59 58,.lg false 59 62 none [.op ⟨some 60,(some (59,true)),.mv 16⟩,.op ⟨some 61,(some (59,true)),.bin .neq 60 (ci 0)⟩] 61,jm 63 62,.lg false 63 67 none [.op ⟨some 64,(some (63,true)),.mv 13⟩,.op ⟨some 65,(some (63,true)),.len 64⟩,.op ⟨some 66,(some (63,true)),.bin .eql 65 (ci 0)⟩] 66,jm 68 67,.lg false 68 72 none [.op ⟨some 69,(some (68,true)),.mv 15⟩,.op ⟨some 70,(some (68,true)),.len 69⟩,.op ⟨some 71,(some (68,true)),.bin .eql 70 (ci 0)⟩] 71,jm 73 72,.lg false 73 75 none [.op ⟨some 74,(some (73,true)),.call 47 []⟩] 74,jm 8 75]
def Z0rz:LJ:=[jm 88 14,jb 89 .eql 88 (ci 0),jm 90 89,.lg false 90 93 none [.op ⟨some 91,(some (90,true)),.mv 16⟩,.op ⟨some 92,(some (90,true)),.bin .eql 91 (ci 0)⟩] 92,jm 94 93,.lg false 94 98 none [.op ⟨some 95,(some (94,true)),.mv 13⟩,.op ⟨some 96,(some (94,true)),.mv 18⟩,.op ⟨some 97,(some (94,true)),.call 43 [95,96]⟩] 97,jm 99 98,.lg false 99 103 none [.op ⟨some 100,(some (99,true)),.mv 15⟩,.op ⟨some 101,(some (99,true)),.mv 18⟩,.op ⟨some 102,(some (99,true)),.call 43 [100,101]⟩] 102,jm 104 103,.lg false 104 106 none [.op ⟨some 105,(some (104,true)),.call 47 []⟩] 105,jm 8 106]
def Z0s0:LJ:=[jm 107 14,jb 108 .neq 107 (ci 171),jm 109 108,.lg true 109 112 none [.op ⟨some 110,(some (109,false)),.mv 16⟩,.op ⟨some 111,(some (109,false)),.bin .neq 110 (ci 171)⟩] 111,jm 113 112,.lg true 113 118 none [.op ⟨some 114,(some (113,false)),.mv 17⟩,.op ⟨some 115,(some (113,false)),.mv 9⟩,.op ⟨some 116,(some (113,false)),.len 115⟩,.op ⟨some 117,(some (113,false)),.bin .geq 114 116⟩] 117,jm 119 118,.lg true 119 128 none [.op ⟨some 120,(some (119,false)),.mv 1⟩,.op ⟨some 121,(some (119,false)),.mv 17⟩,.op ⟨some 122,(some (119,false)),.ias 97 120 121⟩,.op ⟨some 123,(some (119,false)),.fa 0 122⟩,.op ⟨some 124,(some (119,false)),.ld 1 false 123⟩,.op ⟨some 125,(some (119,false)),.mv 17⟩,.op ⟨some 126,(some (119,false)),.bin .add 125 (ci 1)⟩,.op ⟨some 127,(some (119,false)),.bin .neq 124 126⟩] 127,jm 129 128,.lg true 129 138 none [.op ⟨some 130,(some (129,false)),.mv 2⟩,.op ⟨some 131,(some (129,false)),.mv 17⟩,.op ⟨some 132,(some (129,false)),.ias 97 130 131⟩,.op ⟨some 133,(some (129,false)),.fa 0 132⟩,.op ⟨some 134,(some (129,false)),.ld 1 false 133⟩,.op ⟨some 135,(some (129,false)),.mv 17⟩,.op ⟨some 136,(some (129,false)),.bin .add 135 (ci 1)⟩,.op ⟨some 137,(some (129,false)),.bin .neq 134 136⟩] 137]
def Z0s1:Sch:=(.P 0 (jm 139 9) (.P 1 (jm 140 17) (.P 2 (ji' 141 32 139 140) (.P 4 (jm 143 1) (.P 5 (jm 144 17) (.P 6 (ji' 145 97 143 144) (.P 9 (jm 148 1) (.P 10 (jm 149 17) (.P 11 (ji' 150 97 148 149) (.P 12 (jf 151 33 150) (.Q 3 (jl 142 32 true 141) (.Q 7 (jl 146 97 true 145) (.Q 13 (jl 152 64 true 151) (.e 8 (oi 147 (.call 29 [146])) (.e 14 (oi 153 (.call 25 [142,147,152])) (.P 15 (jm 154 153) (.P 16 (.op ⟨some 155,(some (154,true)),.mv 9⟩) (.P 17 (.op ⟨some 156,(some (154,true)),.mv 17⟩) (.P 18 (.op ⟨some 157,(some (154,true)),.ias 32 155 156⟩) (.P 20 (.op ⟨some 159,(some (154,true)),.mv 2⟩) (.P 21 (.op ⟨some 160,(some (154,true)),.mv 17⟩) (.P 22 (.op ⟨some 161,(some (154,true)),.ias 97 159 160⟩) (.P 25 (.op ⟨some 164,(some (154,true)),.mv 2⟩) (.P 26 (.op ⟨some 165,(some (154,true)),.mv 17⟩) (.P 27 (.op ⟨some 166,(some (154,true)),.ias 97 164 165⟩) (.P 28 (.op ⟨some 167,(some (154,true)),.fa 33 166⟩) (.Q 19 (.op ⟨some 158,(some (154,true)),.ld 32 true 157⟩) (.Q 23 (.op ⟨some 162,(some (154,true)),.ld 97 true 161⟩) (.Q 29 (.op ⟨some 168,(some (154,true)),.ld 64 true 167⟩) (.e 24 ⟨some 163,(some (154,true)),.call 29 [162]⟩ (.e 30 ⟨some 169,(some (154,true)),.call 25 [158,163,168]⟩ (.P 31 (oj 170 (.pick 154 169 (.const (.bool false)))) (.P 32 (jm 171 170) (.p [33,34] (.lg false 171 173 none [.op ⟨some 172,(some (171,true)),.call 47 []⟩] 172) (.P 35 (jm 8 173) .nil)))))))))))))))))))))))))))))))))))
def d9:FnD:=⟨174,[.tmp 8],(.sq [jx 4 29 0,jm 8 (.const (.bool false))] (.seq (.sq [jl 19 32 true 4,jm 20 1,jm 21 2,jm 22 3,jc 23 46 [19,20,21,22],oj 24 (.un .not 23)] (.cond 24 (.sq [jm 8 (.const (.bool false))] .ret) .skip)) (.sq [jl 26 32 true 4,jm 27 1,jc 28 34 [26,27],jm 25 28,je 29 25 0,je 30 25 1,jm 9 29,jm 10 30] (.sq [jl 32 32 true 4,jm 33 2,jc 34 34 [32,33],jm 31 34,je 35 31 0,je 36 31 1,jm 11 35,jm 12 36] (.sq [jl 38 32 true 4,jm 39 1,jm 40 2,jc 41 41 [38,39,40],jm 37 41,je 42 37 0,je 43 37 1,jm 13 42,jm 14 43] (.sq [jl 45 32 true 4,jm 46 2,jm 47 1,jc 48 41 [45,46,47],jm 44 48,je 49 44 0,je 50 44 1,jm 15 49,jm 16 50] (.seq (.sq r9_7 (.cond 56 (.sq r9_8 .ret) .skip)) (.sq [jm 76 1,jm 77 2,jc 78 48 [76,77],jm 17 78] (.seq (.sq [jm 79 17,jb 80 .lss 79 (ci 0)] (.cond 80 (.sq [jm 81 1,jm 18 81] (.seq (.sq [jm 82 2,jn' 83 82,jm 84 1,jn' 85 84,jb 86 .gtr 83 85] (.cond 86 (.ops [jm 87 2,jm 18 87]) .skip)) (.sq Z0rz .ret))) .skip)) (.seq (.sq Z0s0 (.cond 138 (.sq [jm 8 (.const (.bool false))] .ret) .skip)) (.seq (.draw Z0s1 []) .ret)))))))))))⟩
def Z0gm:LJ:=[ji' 12 97 8 10,jl 13 97 true 12,ja 6 51 [.one (.int .i64 0),.ints .u8 32 (replicate 32 0),.ints .u8 64 (replicate 64 0)],js' 97 6 13]
def Z0aw:IC:=(.sq Z0gm (.seq (.sq [jm 14 0,jl 15 32 true 4,jl 16 97 true 6,oj 17 (.cv 14 [15,16]),oj 18 (.un .not 17)] (.cond 18 .ret .skip)) (.ops [jf 19 1 6,jl 20 32 true 19,js' 32 4 20])))
def Z0di:IC:=(.sq [jb 11 .lss 10 9] (.seq (.cond 11 .skip (.exit 0)) (.seq (.block 1 Z0aw) (.ops [jb 21 .add 10 (ci 1),jm 10 21]))))
def Z0av:IC:=(.loop Z0di)
def d151:FnD:=⟨22,[],(.sq [jl 7 32 true 1,ja 4 29 [.ints .u8 32 (replicate 32 0)],js' 32 4 7] (.sq [jl 8 1 false 2,jn' 9 8,jm 10 (ci 0)] (.block 0 Z0av)))⟩
theorem Z0np:okF Tryz.prog 151 d151=true:=by kernel_rfl
theorem mo:Tryz.prog.follows .mixedOrders=true:=by kernel_rfl
theorem Zhb:ExtF Tryz.prog 158 add64Entry:=⟨Tryz.f158,Tryz.func158,by kernel_rfl,by kernel_rfl,by kernel_rfl,by kernel_rfl⟩
theorem Z063:ExtF Tryz.prog 190 Zgn:=⟨Tryz.f190,Tryz.func190,by kernel_rfl,by kernel_rfl,by kernel_rfl,by kernel_rfl⟩
end Go.Proofs.YtiflckckekjbnaaGreatDoor
namespace Go.Sx
open Go Go.RowKit
set_option linter.all false
section
variable {α:Type} {C:Cfg} {m:List Zf} {t:TS} {K:KN} {E:El α} {v:Value} {xs:List α}
theorem Zpc {β γ:Type} {E1:El β} {E2:El γ} {v1 v2:Value} {ys:List β} {zs:List γ} (h : ∀ W,RdSl E1 W v1 ys->RdSl E2 W v2 zs->RdSl E W v xs) (h1:Zit C m E1 v1 ys) (h2:Zit C m E2 v2 zs):Zit C m E v xs:=fun w hw=>h w (h1 w hw) (h2 w hw)
theorem Z01u {W:World} (h:RdSl E W v xs) (hn:Zlm v=true):xs = []:=by
 rcases h with ⟨_,h2⟩ | ⟨b,o,cp,h1,_,_⟩ | ⟨a,_,h2⟩
 ·exact h2
 ·subst h1; simp [Zlm] at hn
 ·exact h2
end
end Go.Sx
namespace Go.Proofs.YtiflckckekjbnaaGreatDoor
open Go Go.Sx Go.RowKit
set_option linter.all false
set_option maxHeartbeats 400000
set_option maxRecDepth 100000
theorem Zij {W:World} {p0:LI} {v1:Value} (hv:Zkp v1) :
  Calls Tryz.prog 82 [agg [.ints .u8 32 (p0)],v1].toArray W (Zc6 W [] (fun v Ms=>∃ (b1:Nat) (T1:TypeId) (b2:Nat) (T2:TypeId),v = .func (.func 151) #[] #[.pointer (some ⟨b1,0,none⟩),.pointer (some ⟨b2,0,none⟩)]/\Ms = [.one (ck b1 T1 [.ints .u8 32 (p0)]),.one (ck b2 T2 [.one v1])])):=by
 refine Z04 mo ok82 rfl (Zh8 _) ?_
 refine Z0<|Z2<|Zg (Z0k (s:=[.ints .u8 32 (p0)]) rfl fun b1 hb1=>Zg (Z096 rfl (Zkp.cells hv) fun b2 hb2=>Z6 _ (Z0u rfl)<|Z1<|Z0<|Z2<|Z6 _ (q_mf rfl)<|Z6 _ (Z0u rfl)<|Z1<|Zi ?_))
 exact ⟨_,_,.cons (.tmp rfl) .nil,.one (.there .here) (.one .here .nil),⟨_,rfl,b1,29,b2,56,rfl,rfl⟩⟩
end Go.Proofs.YtiflckckekjbnaaGreatDoor
namespace Go.Proofs.YtiflckckekjbnaaGreatDoor
open Go Go.Sx Go.RowKit
open List (replicate)
open Go.IntKind (wrap)
set_option linter.all false
set_option maxHeartbeats 400000
set_option maxRecDepth 100000
def ng:Nat:=5
def G_rfirst:LI:=[7640891576956012808,13503953896175478587,4354685564936845355,11912009170470909681,5840696475078001361,11170449401992604703,2270897969802886507,6620516959819538809]
def G_order:LI:=[6346243789798364141,1503914060200516822,0,1152921504606846976]
def G_first:LI:=[7640891576956012808,13503953896175478587,4354685564936845355,11912009170470909681,5840696475078001361,11170449401992604703,2270897969802886507,6620516959819538809]
def G_rtable:LI:=[4794697086780616226,8158064640168781261,13096744586834688815,16840607885511220156,4131703408338449720,6480981068601479193,10538285296894168987,12329834152419229976,15566598209576043074,1334009975649890238,2608012711638119052,6128411473006802146,8268148722764581231,9286055187155687089,11230858885718282805,13951009754708518548,16472876342353939154,17275323862435702243,1135362057144423861,2597628984639134821,3308224258029322869,5365058923640841347,6679025012923562964,8573033837759648693,10970295158949994411,12119686244451234320,12683024718118986047,13788192230050041572,14330467153632333762,15395433587784984357,489312712824947311,1452737877330783856,2861767655752347644,3322285676063803686,5560940570517711597,5996557281743188959,7280758554555802590,8532644243296465576,9350256976987008742,10552545826968843579,11727347734174303076,12113106623233404929,14000437183269869457,14369950271660146224,15101387698204529176,15463397548674623760,17586052441742319658,1182934255886127544,1847814050463011016,2177327727835720531,2830643537854262169,3796741975233480872,4115178125766777443,5681478168544905931,6601373596472566643,7507060721942968483,8399075790359081724,8693463985226723168,9568029438360202098,10144078919501101548,10430055236837252648,11840083180663258601,13761210420658862357,14299343276471374635,14566680578165727644,15097957966210449927,16922976911328602910,17689382322260857208,500013540394364858,748580250866718886,1242879168328830382,1977374033974150939,2944078676154940804,3659926193048069267,4368137639120453308,4836135668995329356,5532061633213252278,6448918945643986474,6902733635092675308,7801388544844847127]
def G_table:LI:=[4794697086780616226,8158064640168781261,13096744586834688815,16840607885511220156,4131703408338449720,6480981068601479193,10538285296894168987,12329834152419229976,15566598209576043074,1334009975649890238,2608012711638119052,6128411473006802146,8268148722764581231,9286055187155687089,11230858885718282805,13951009754708518548,16472876342353939154,17275323862435702243,1135362057144423861,2597628984639134821,3308224258029322869,5365058923640841347,6679025012923562964,8573033837759648693,10970295158949994411,12119686244451234320,12683024718118986047,13788192230050041572,14330467153632333762,15395433587784984357,489312712824947311,1452737877330783856,2861767655752347644,3322285676063803686,5560940570517711597,5996557281743188959,7280758554555802590,8532644243296465576,9350256976987008742,10552545826968843579,11727347734174303076,12113106623233404929,14000437183269869457,14369950271660146224,15101387698204529176,15463397548674623760,17586052441742319658,1182934255886127544,1847814050463011016,2177327727835720531,2830643537854262169,3796741975233480872,4115178125766777443,5681478168544905931,6601373596472566643,7507060721942968483,8399075790359081724,8693463985226723168,9568029438360202098,10144078919501101548,10430055236837252648,11840083180663258601,13761210420658862357,14299343276471374635,14566680578165727644,15097957966210449927,16922976911328602910,17689382322260857208,500013540394364858,748580250866718886,1242879168328830382,1977374033974150939,2944078676154940804,3659926193048069267,4368137639120453308,4836135668995329356,5532061633213252278,6448918945643986474,6902733635092675308,7801388544844847127]
structure Globs (W:World):Prop where
  g0:Mem W 0 0 [.ints .u64 8 G_rfirst]
  g1:Mem W 1 0 [.ints .u64 4 G_order]
  g2:Mem W 2 0 [.ints .u64 8 G_first]
  g3:Mem W 3 0 [.ints .u64 80 G_rtable]
  g4:Mem W 4 0 [.ints .u64 80 G_table]
theorem Globs.at {C:Cfg} {m:List Zf} {w:World} (h:Globs C.W0) (hw:Sat C.W0 C.S m w) (hS : ∀ g,g<ng->g∉C.S):Globs w:=⟨Zf7 h.g0 (hS 0 (by decide)) hw,Zf7 h.g1 (hS 1 (by decide)) hw,Zf7 h.g2 (hS 2 (by decide)) hw,Zf7 h.g3 (hS 3 (by decide)) hw,Zf7 h.g4 (hS 4 (by decide)) hw⟩
theorem Globs.ap {C:Cfg} {m:List Zf} {w:World} {b:Nat} {o:Obj} (h:Globs C.W0) (hS : ∀ g,g<ng->g∉C.S) (hb:Has b o m) (hw:Sat C.W0 C.S m w) : ∀ g,g<ng->g ∉ [b]:=by
  intro g hg hm
  simp only [List.mem_singleton] at hm
  subst hm
  rcases hw.base _ hb.mem with h1 | h1
  · have h2 : ∀ g,g<ng->g<C.W0.heap.size:=fun g hg=>match g,hg with
      | 0,_=>h.g0.lt
      | 1,_=>h.g1.lt
      | 2,_=>h.g2.lt
      | 3,_=>h.g3.lt
      | 4,_=>h.g4.lt
    exact absurd h1 (Nat.not_le.2 (h2 _ hg))
  · exact hS _ hg h1
structure Zu where
  gstate:LI
  gheld:LI
  ghave:Int
  glength:Int
def Zdq:Option (Zu) :=
 some (⟨G_first,(replicate 128 0),0,0⟩:Zu)
theorem Zmg {W:World} {r:Zu} (h:Zdq=some r) (hG:Globs W) :
    Calls Tryz.prog 96 [].toArray W (Zc6 W [] (fun v Ms=>∃ (b1:Nat) (T0:TypeId),v = pt' b1/\Ms = [.one (ck b1 T0 [u8' r.gstate,.ints .u8 128 (r.gheld),.one (.int .i64 (r.ghave)),.one (.int .u64 (r.glength))])])):=by
 unfold Zdq at h
 refine Z04 mo ok96 rfl (Zh8 _) ?_
 refine Z0<|Z2<|Z7 rfl<|Z1<|Z0<|Z2<|Z6 _ (Zsu (o0:=0) (off:=0) rfl (hG.g2) (by simp) rfl)<|Z6 _ (Zct (q:=[u8' G_first,.ints .u8 128 ((replicate 128 0)),.one (.int .i64 (0)),.one (.int .u64 (0))]) (.agg rfl rfl rfl BdR.nil))<|Zg (Z0k (s:=[u8' G_first,.ints .u8 128 ((replicate 128 0)),.one (.int .i64 (0)),.one (.int .u64 (0))]) rfl fun b2 u1=>Z7 rfl<|Z1<|Zi ?_)
 revert h; refine Zt fun h=>?_
 subst h
 exact ⟨_,_,(.cons (.tmp rfl) .nil),(.o .nil),⟨_,rfl,⟨b2,194,rfl,rfl⟩⟩⟩
def Z7p (k1:Int->Option Int) (k2:Int->Int->Option Int) (i1:Int) (i2:Int):Option Int :=
 br ((i2 != 0)) (
 bnd (wrap .i64 (i1+1)) fun z1 =>
 bnd (Zq .u64 i2 1) fun z2 =>
 k2 z1 z2
 ) (
 k1 i1
 )
def Z4d (k1:Int->Option Int):Nat->Int->Int->Option Int
  | 0,_,_=>none
  | n+1,i1,i2=>Z7p k1 (Z4d k1 n) i1 i2
def Z3f:Option Int :=
 bnd (Z4 .xor .u64 18446744073709551615 0) fun z1 =>
 jn (fun (i1:Int)=>some i1) fun k1=>Z4d k1 big 0 z1
theorem Z4w {W:World} {r:Int} (h:Z3f=some r)  :
    Calls Tryz.prog 183 [].toArray W (Z36 W (.int .i64 (r))):=by
 unfold Z3f at h
 refine Zc mo Z0oi rfl ?_
 refine Z0<|Z2<|Z7 rfl<|Z1<|Z0<|Z2<|Z7 rfl<|Z1<|Z0<|Z0<|bH h fun z1 e1 h=>Z2<|Z6 _ (Z4k rfl)<|Z6 _ (iz e1 (Zl0 rfl rfl))<|Z7 rfl<|Z1<|jH h fun k1 q1 h=>Zm (G:=fun t m=>∃ (i1:Int),k1 i1=some r/\Fit [(1,.int .i64 (i1))] [] t m) ?_ ?_
 ·refine Za<|Zp (fun n1 t m=>∃ (i2:Int) (i3:Int),Z4d k1 n1 i2 i3=some r/\Fit [(1,.int .i64 (i2)),(2,.int .u64 (i3))] [] t m) big ?_ ?_
  ·exact ⟨0,z1,h,⟨⟨rfl,rfl,trivial⟩,.nil⟩⟩
  ·rintro n1 t m ⟨i2,i3,h,hF⟩
   refine Zk hF ?_
   clear hF
   rcases n1 with _ | n1
   · exact Z0a h
   have h:Z7p k1 (Z4d k1 n1) i2 i3=some r:=h
   unfold Z7p at h
   obtain ⟨k2,q2⟩ : ∃ k,k=Z4d k1 n1:=⟨_,rfl⟩
   try rw [<- q2] at h
   refine Z0<|Z0<|Z2<|Z7 rfl<|Z6 _ (Z9 rfl rfl rfl)<|Z1<|Z02 h rfl (fun h=>?_) (fun h=>?_)
   ·refine Ze<|Z0<|Za<|bH h fun z2 e2 h=>Z2<|Z7 rfl<|Z6 _ (iz e2 (Z9 rfl rfl rfl))<|Z7 rfl<|Z1<|bH h fun z3 e3 h=>Z2<|Z7 rfl<|Z6 _ (iz e3 (Z5g rfl rfl (by decide)))<|Z7 rfl<|Z1 ?_
    rw [q2] at h
    exact ⟨n1,Nat.lt_succ_self _,z2,z3,h,⟨⟨rfl,rfl,trivial⟩,.nil⟩⟩
   ·exact Zx _ rfl<|⟨i2,h,⟨⟨rfl,trivial⟩,.nil⟩⟩
 ·rintro t m ⟨i1,h,hF⟩
  refine Zk hF ?_
  clear hF
  subst q1
  refine Z0<|Z2<|Z7 rfl<|Z7 rfl<|Z1<|Zi ?_
  revert h; refine Zt fun h=>?_
  subst h
  exact ⟨_,(.cons (.tmp rfl) .nil),rfl⟩
def Z4l (p0:LI) (p1:Int):Option ((Bool×LI)) :=
 opt (Z3f) fun y1 =>
 bnd (wrap .i64 (Int.tdiv y1 8)) fun z1 =>
 br (((decide (p1<0))||(decide (p1>wrap .i64 ((p0.length:Int)-z1))))) (
 some (true,[])
 ) (
 bnd (wrap .i64 (p1+z1)) fun z2 =>
 chk (Z97 p1 z2 p0.length) <|
 chk (decide (0<((p0.drop (p1).toNat).take ((z2).toNat-(p1).toNat)).length)) <|
 some (false,((p0.drop (p1).toNat).take ((z2).toNat-(p1).toNat)))
 )
theorem Z9n {W:World} {r:(Bool×LI)} {p0:LI} {p1:Int} {v0:Value} (h:Z4l p0 p1=some r) (A0:RdSl (El.int .u8) W v0 p0) :
    Calls Tryz.prog 203 [v0,.int .i64 (p1)].toArray W (Zc6 W [] (fun v Ms=>∃ (u0:Value),v=u0/\Ms = []/\Shp u0 (r.2).length/\Zlm u0=r.1/\(∀ W,RdSl (El.int .u8) W v0 p0->RdSl (El.int .u8) W u0 r.2))):=by
 unfold Z4l at h
 refine Z04 mo Z0oy rfl (Zh8 _) ?_
 refine Z0<|Z2<|Z7 rfl<|Z1<|Z0<|oH h fun y1 f1 h=>bH h fun z1 e1 h=>Z2<|Z6 _ (Z0b rfl (Z4w f1))<|Z6 _ (iz e1 (Zb8 rfl rfl (by decide)))<|Z7 rfl<|Z1<|Z0<|Z0<|Z2<|Z7 rfl<|Z6 _ (Z9 rfl rfl rfl)<|Z7 rfl<|Zhp rfl rfl rfl (fun hg1=>Z5h rfl _ (Z0u rfl) (Z5h rfl _ (Z0u rfl) (Z5h rfl _ (Z22 rfl (Shp.rd A0)) (Z5h rfl _ (Z0u rfl) (Z5h rfl _ (iz rfl (Z9 rfl rfl rfl)) (Z5h rfl _ (Z9 rfl rfl rfl) (Z5f))))))) (fun hg1=>rfl) rfl<|Z1<|Z02 h rfl (fun h=>?_) (fun h=>?_)
 ·refine Z0<|Z2<|Z7 rfl<|Z1<|Zi ?_
  revert h; refine Zt fun h=>?_
  subst h
  exact ⟨_,_,(.cons (.tmp rfl) .nil),.nil,⟨_,rfl,⟨(.slice none 0 0),rfl,rfl,Shp.nil,rfl,Z03d⟩⟩⟩
 ·refine Ze<|Z0<|bH h fun z2 e2 h=>cH h fun c1 h=>Z2<|Z7 rfl<|Z7 rfl<|Z7 rfl<|Z7 rfl<|Z6 _ (iz e2 (Z9 rfl rfl rfl))<|Z6 _ (Zqx (lz:=p1) (hz:=z2) rfl (Shp.rd A0) (.yes rfl) (.yes rfl) c1)<|Z7 rfl<|Z1<|Zi<|cH h fun c2 h=>?_
  revert h; refine Zt fun h=>?_
  subst h
  exact ⟨_,_,(.cons (.tmp rfl) .nil),.nil,⟨_,rfl,⟨(Z53 1 v0 (p1).toNat (z2).toNat),rfl,rfl,(Shp.cut (Shp.rd A0) (lz:=p1) (hz:=z2) c1),(Shp.notnil (Shp.cut (Shp.rd A0) (lz:=p1) (hz:=z2) c1) c2),(fun W A0=>(Z0iu A0 (lz:=p1) (hz:=z2) c1))⟩⟩⟩
def Z3s (y1:(Bool×LI)) (k1:Int->Option (Int×Bool)) (k2:Int->Int->Option (Int×Bool)) (i1:Int) (i2:Int):Option (Int×Bool) :=
 br ((decide (i2<(y1.2.length:Int)))) (
 chk (inB i2 y1.2.length) <|
 bnd (y1.2.getD (i2).toNat 0) fun z1 =>
 bnd (Zl .u64 i1 8) fun z2 =>
 bnd (wrap .u64 z1) fun z3 =>
 bnd (Z4 .or .u64 z2 z3) fun z4 =>
 bnd (wrap .i64 (i2+1)) fun z5 =>
 k2 z4 z5
 ) (
 k1 i1
 )
def Z15 (y1:(Bool×LI)) (k1:Int->Option (Int×Bool)):Nat->Int->Int->Option (Int×Bool)
  | 0,_,_=>none
  | n+1,i1,i2=>Z3s y1 k1 (Z15 y1 k1 n) i1 i2
def Z52 (p0:LI) (p1:Int):Option (Int×Bool) :=
 opt (Z4l p0 p1) fun y1 =>
 jn (fun (i1:Int)=>some (i1,(!y1.1))) fun k1=>Z15 y1 k1 big 0 0
theorem Zdx {W:World} {r:Int×Bool} {p0:LI} {p1:Int} {v0:Value} (h:Z52 p0 p1=some r) (A0:RdSl (El.int .u8) W v0 p0) :
    Calls Tryz.prog 218 [v0,.int .i64 (p1)].toArray W (Z36 W (.tuple #[.int .u64 (r.1),.bool (r.2)])):=by
 unfold Z52 at h
 refine Zc mo Z0p9 rfl ?_
 refine Z0<|Z2<|Z7 rfl<|Z7 rfl<|Z1<|Z0<|Z2<|Z7 rfl<|Z1<|Z0<|oH h fun y1 f1 h=>Z2<|Z7 rfl<|Z7 rfl<|Zg (Z06 rfl (fun w hw=>Z9n  f1 ((Z0d A0 Z0h) w hw)) fun v5 o1 R1=>?_)
 obtain ⟨_,rfl,rfl,P10,N8,H9⟩:=R1
 refine Z7 rfl<|Z1<|Z0<|Z0<|Z2<|Z7 rfl<|Z6 _ (Z22 rfl P10)<|Z7 rfl<|Z1<|jH h fun k1 q1 h=>Zm (G:=fun t m=>∃ (i1:Int),k1 i1=some r/\Fit [(6,.int .u64 (i1)),(7,v5)] [] t m) ?_ ?_
 ·refine Za<|Zp (fun n1 t m=>∃ (i2:Int) (i3:Int),Z15 y1 k1 n1 i2 i3=some r/\Fit [(6,.int .u64 (i2)),(7,v5),(13,v5),(14,.int .i64 ((y1.2.length:Int))),(15,.int .i64 (i3))] [] t m) big ?_ ?_
  ·exact ⟨0,0,h,⟨⟨rfl,rfl,rfl,rfl,rfl,trivial⟩,.nil⟩⟩
  ·rintro n1 t m ⟨i2,i3,h,hF⟩
   refine Zk hF ?_
   clear hF
   rcases n1 with _ | n1
   · exact Z0a h
   have h:Z3s y1 k1 (Z15 y1 k1 n1) i2 i3=some r:=h
   unfold Z3s at h
   obtain ⟨k2,q2⟩ : ∃ k,k=Z15 y1 k1 n1:=⟨_,rfl⟩
   try rw [<- q2] at h
   refine Z0<|Z2<|Z6 _ (Z9 rfl rfl rfl)<|Z1<|Z0<|Z02 h rfl (fun h=>?_) (fun h=>?_)
   ·refine Ze<|Z0<|Za<|Z0<|cH h fun c1 h=>bH h fun z1 e1 h=>Z2<|Z6 _ (Z2t rfl rfl P10 c1)<|Z6 _ (iz e1 (Z5e (E:=(El.int .u8)) (s:=[.one (.int .u8 (y1.2.getD (i3).toNat 0))]) rfl (Zz3 H9 (Z0d A0 Z0h)) (Z03 c1) rfl rfl))<|Z7 rfl<|Z1<|bH h fun z2 e2 h=>bH h fun z3 e3 h=>bH h fun z4 e4 h=>Z2<|Z7 rfl<|Z6 _ (iz e2 (Zkk rfl rfl (by decide)))<|Z7 rfl<|Z6 _ (iz e3 (Z4k rfl))<|Z6 _ (iz e4 (Z9 rfl rfl rfl))<|Z7 rfl<|Z1<|bH h fun z5 e5 h=>Z2<|Z6 _ (iz e5 (Z9 rfl rfl rfl))<|Z7 rfl<|Z1 ?_
    rw [q2] at h
    exact ⟨n1,Nat.lt_succ_self _,z4,z5,h,⟨⟨rfl,rfl,rfl,rfl,rfl,trivial⟩,.nil⟩⟩
   ·exact Zx _ rfl<|⟨i2,h,⟨⟨rfl,rfl,trivial⟩,.nil⟩⟩
 ·rintro t m ⟨i1,h,hF⟩
  refine Zk hF ?_
  clear hF
  subst q1
  refine Z0<|Z2<|Z7 rfl<|Z7 rfl<|Z6 _ (Zyt rfl P10 N8)<|Z7 rfl<|Z7 rfl<|Z1<|Zi ?_
  revert h; refine Zt fun h=>?_
  subst h
  exact ⟨_,(.cons (.tmp rfl) (.cons (.tmp rfl) .nil)),rfl⟩
def Z46 (p0:Int) (p1:Int):Option Int :=
 opt (Z3f) fun y1 =>
 bnd (wrap .u64 p1) fun z1 =>
 bnd (wrap .i64 (y1-1)) fun z2 =>
 bnd (wrap .u64 z2) fun z3 =>
 bnd (Z4 .and .u64 z1 z3) fun z4 =>
 chk (decide (0<=z4)) <|
 bnd (Zq .u64 p0 z4) fun z5 =>
 bnd (wrap .u64 y1) fun z6 =>
 bnd (wrap .u64 (z6-z4)) fun z7 =>
 chk (decide (0<=z7)) <|
 bnd (Zl .u64 p0 z7) fun z8 =>
 bnd (Z4 .or .u64 z5 z8) fun z9 =>
 some z9
theorem Z3u {W:World} {r:Int} {p0:Int} {p1:Int} (h:Z46 p0 p1=some r)  :
    Calls Tryz.prog 220 [.int .u64 (p0),.int .i64 (p1)].toArray W (Z36 W (.int .u64 (r))):=by
 unfold Z46 at h
 refine Zc mo Z0pb rfl ?_
 refine Z0<|Z2<|Z7 rfl<|Z1<|Z0<|oH h fun y1 f1 h=>Z2<|Z6 _ (Z0b rfl (Z4w f1))<|Z7 rfl<|Z1<|Z0<|bH h fun z1 e1 h=>bH h fun z2 e2 h=>bH h fun z3 e3 h=>bH h fun z4 e4 h=>Z2<|Z7 rfl<|Z6 _ (iz e1 (Z4k rfl))<|Z7 rfl<|Z6 _ (iz e2 (Z9 rfl rfl rfl))<|Z6 _ (iz e3 (Z4k rfl))<|Z6 _ (iz e4 (Z9 rfl rfl rfl))<|Z7 rfl<|Z1<|Z0<|cH h fun c1 h=>bH h fun z5 e5 h=>bH h fun z6 e6 h=>bH h fun z7 e7 h=>cH h fun c2 h=>bH h fun z8 e8 h=>bH h fun z9 e9 h=>Z2<|Z7 rfl<|Z7 rfl<|Z6 _ (iz e5 (Z5g rfl rfl (of_decide_eq_true c1)))<|Z7 rfl<|Z7 rfl<|Z6 _ (iz e6 (Z4k rfl))<|Z7 rfl<|Z6 _ (iz e7 (Z9 rfl rfl rfl))<|Z6 _ (iz e8 (Zkk rfl rfl (of_decide_eq_true c2)))<|Z6 _ (iz e9 (Z9 rfl rfl rfl))<|Z7 rfl<|Z1<|Zi ?_
 revert h; refine Zt fun h=>?_
 subst h
 exact ⟨_,(.cons (.tmp rfl) .nil),rfl⟩
def Za6 (p0:Int) (p1:Int) (p2:Int) (p3:Int):Option Int :=
 opt (Z46 p0 p1) fun y1 =>
 opt (Z46 p0 p2) fun y2 =>
 bnd (Z4 .xor .u64 y1 y2) fun z1 =>
 chk (decide (0<=p3)) <|
 bnd (Zq .u64 p0 p3) fun z2 =>
 bnd (Z4 .xor .u64 z1 z2) fun z3 =>
 some z3
theorem Zeo {W:World} {r:Int} {p0:Int} {p1:Int} {p2:Int} {p3:Int} (h:Za6 p0 p1 p2 p3=some r)  :
    Calls Tryz.prog 219 [.int .u64 (p0),.int .i64 (p1),.int .i64 (p2),.int .i64 (p3)].toArray W (Z36 W (.int .u64 (r))):=by
 unfold Za6 at h
 refine Zc mo Z0pa rfl ?_
 refine Z0<|Z2<|Z7 rfl<|Z1<|Z0<|oH h fun y1 f1 h=>oH h fun y2 f2 h=>bH h fun z1 e1 h=>cH h fun c1 h=>bH h fun z2 e2 h=>bH h fun z3 e3 h=>Zr<|Z8 _ (Z0u rfl)<|Z8 _ (Z0u rfl)<|Z8 _ (Z0b rfl (Z3u f1))<|Z8 _ (Z0u rfl)<|Z8 _ (Z0u rfl)<|Z8 _ (Z0b rfl (Z3u f2))<|Z8 _ (iz e1 (Z9 rfl rfl rfl))<|Z8 _ (Z0u rfl)<|Z8 _ (Z0u rfl)<|Z8 _ (iz e2 (Z5g rfl rfl (of_decide_eq_true c1)))<|Z8 _ (iz e3 (Z9 rfl rfl rfl))<|Z8 _ (Z0u rfl)<|Z00<|Zi ?_
 revert h; refine Zt fun h=>?_
 subst h
 exact ⟨_,(.cons (.tmp rfl) .nil),rfl⟩
def Z59 (p0:LI) (k1:(LI)->OL) (k2:Int->(LI)->OL) (i1:Int) (a1:LI):OL :=
 br ((decide (i1<80))) (
 jn (fun (a2:LI)=>bnd (wrap .i64 (i1+1)) fun z1 =>
 k2 z1 a2) fun k3=>br ((decide (i1<16))) (
 bnd (wrap .i64 (8*i1)) fun z2 =>
 opt (Z52 (tk p0 0 128) z2) fun y1 =>
 chk (inB i1 80) <|
 bnd (Z2u a1 (i1).toNat y1.1) fun l1 =>
 k3 l1
 ) (
 bnd (wrap .i64 (i1-2)) fun z3 =>
 chk (inB z3 80) <|
 bnd (wrap .i64 (i1-7)) fun z4 =>
 chk (inB z4 80) <|
 bnd (wrap .i64 (i1-15)) fun z5 =>
 chk (inB z5 80) <|
 bnd (wrap .i64 (i1-16)) fun z6 =>
 chk (inB z6 80) <|
 bnd (a1.getD (z3).toNat 0) fun z7 =>
 opt (Za6 z7 19 61 6) fun y2 =>
 bnd (a1.getD (z4).toNat 0) fun z8 =>
 bnd (wrap .u64 (y2+z8)) fun z9 =>
 bnd (a1.getD (z5).toNat 0) fun z10 =>
 opt (Za6 z10 1 8 7) fun y3 =>
 bnd (wrap .u64 (z9+y3)) fun z11 =>
 bnd (a1.getD (z6).toNat 0) fun z12 =>
 bnd (wrap .u64 (z11+z12)) fun z13 =>
 chk (inB i1 80) <|
 bnd (Z2u a1 (i1).toNat z13) fun l2 =>
 k3 l2
 )
 ) (
 k1 a1
 )
def Z2b (p0:LI) (k1:(LI)->OL):Nat->Int->(LI)->OL
  | 0,_,_=>none
  | n+1,i1,a1=>Z59 p0 k1 (Z2b p0 k1 n) i1 a1
def Z7e (p0:LI):OL :=
 jn (fun (a1:LI)=>some a1) fun k1=>Z2b p0 k1 big 0 (replicate 80 0)
theorem Zgu {W:World} {r:(LI)} {p0:LI} (h:Z7e p0=some r)  :
    Calls Tryz.prog 201 [agg [.ints .u8 128 (p0)]].toArray W (Z36 W (agg [.ints .u64 80 (r)])):=by
 unfold Z7e at h
 refine Zc mo Z0ow rfl ?_
 refine Z0<|Z2<|Zg (Z0k (s:=[.ints .u8 128 (p0)]) rfl fun b1 u1=>Zg (Zv fun b2 u2=>Z1<|Z0<|Z2<|Zg (Zv fun b3 u3=>Z1<|Z0<|Z0<|Z2<|Z7 rfl<|Z1<|jH h fun k1 q1 h=>Zm (G:=fun t m=>∃ (a1:LI),k1 a1=some r/\Fit [(2,pt' b2),(3,pt' b3)] (ck b3 211 [.ints .u64 80 (a1)]::(ck b2 211 [.ints .u64 80 ((replicate 80 0))]::(ck b1 192 [.ints .u8 128 (p0)] :: []))) t m) ?_ ?_)))
 ·refine Za<|Zp (fun n1 t m=>∃ (i1:Int) (a2:LI),Z2b p0 k1 n1 i1 a2=some r/\Fit [(1,pt' b1),(2,pt' b2),(3,pt' b3),(5,.int .i64 (i1))] (ck b3 211 [.ints .u64 80 (a2)]::(ck b2 211 [.ints .u64 80 ((replicate 80 0))]::(ck b1 192 [.ints .u8 128 (p0)] :: []))) t m) big ?_ ?_
  ·exact ⟨0,(replicate 80 0),h,⟨⟨rfl,rfl,rfl,rfl,trivial⟩,(.o (.o (.o .nil)))⟩⟩
  ·rintro n1 t m ⟨i1,a2,h,hF⟩
   refine Zk hF ?_
   clear hF
   rcases n1 with _ | n1
   · exact Z0a h
   have h:Z59 p0 k1 (Z2b p0 k1 n1) i1 a2=some r:=h
   unfold Z59 at h
   obtain ⟨k2,q2⟩ : ∃ k,k=Z2b p0 k1 n1:=⟨_,rfl⟩
   try rw [<- q2] at h
   refine Z0<|Z2<|Z6 _ (Z9 rfl rfl rfl)<|Z1<|Z0<|Z02 h rfl (fun h=>?_) (fun h=>?_)
   ·refine Ze<|Z0<|jH h fun k3 q3 h=>Zm (G:=fun t m=>∃ (a3:LI),k3 a3=some r/\Fit [(1,pt' b1),(2,pt' b2),(3,pt' b3),(5,.int .i64 (i1))] (ck b3 211 [.ints .u64 80 (a3)]::(ck b2 211 [.ints .u64 80 ((replicate 80 0))]::(ck b1 192 [.ints .u8 128 (p0)] :: []))) t m) ?_ ?_
    ·refine Za<|Z0<|Z2<|Z7 rfl<|Z7 rfl<|Z1<|Z0<|Z0<|Z2<|Z7 rfl<|Z6 _ (Z9 rfl rfl rfl)<|Z1<|Z02 h rfl (fun h=>?_) (fun h=>?_)
     ·exact Z0<|bH h fun z1 e1 h=>oH h fun y1 f1 h=>cH h fun c1 h=>bH h fun l1 g1 h=>Z2<|Z7 rfl<|Z6 _ (Ze8 rfl .no .no .no (by simp) (by decide))<|Z7 rfl<|Z6 _ (iz e1 (Z9 rfl rfl rfl))<|Z6 _ (Z0p rfl (fun w hw=>Zdx f1 ((Z3q (s:=[.ints .u8 128 (p0)]) (N:=128) (k:=.u8) (base:=0) (lo:=0) (hi:=128) (mz:=128) .t2 rfl (by decide)) w hw)))<|Z7 rfl<|Z6 _ (Z2i rfl rfl)<|Z6 _ (Z2i rfl rfl)<|Z6 _ (Z1s rfl rfl (Z0j c1))<|Zg (Z2l (q:=[.ints .u64 80 (l1)]) (base:=0) g1 rfl rfl rfl (Z03 c1) rfl .here<|Z1<|Zx _ rfl<|⟨l1,h,⟨⟨rfl,rfl,rfl,rfl,trivial⟩,(.o (.o (.o .nil)))⟩⟩)
     ·exact Ze<|bH h fun z2 e2 h=>cH h fun c2 h=>bH h fun z3 e3 h=>cH h fun c3 h=>bH h fun z4 e4 h=>cH h fun c4 h=>bH h fun z5 e5 h=>cH h fun c5 h=>bH h fun z6 e6 h=>oH h fun y2 f2 h=>bH h fun z7 e7 h=>bH h fun z8 e8 h=>bH h fun z9 e9 h=>oH h fun y3 f3 h=>bH h fun z10 e10 h=>bH h fun z11 e11 h=>bH h fun z12 e12 h=>cH h fun c6 h=>bH h fun l2 g2 h=>Zr<|Z8 _ (Z0u rfl)<|Z8 _ (Z0u rfl)<|Z8 _ (iz e2 (Z9 rfl rfl rfl))<|Z8 _ (Z1s rfl rfl (Z0j c2))<|Z8 _ (Z0u rfl)<|Z8 _ (iz e3 (Z9 rfl rfl rfl))<|Z8 _ (Z1s rfl rfl (Z0j c3))<|Z8 _ (Z0u rfl)<|Z8 _ (iz e4 (Z9 rfl rfl rfl))<|Z8 _ (Z1s rfl rfl (Z0j c4))<|Z8 _ (Z0u rfl)<|Z8 _ (iz e5 (Z9 rfl rfl rfl))<|Z8 _ (Z1s rfl rfl (Z0j c5))<|Zn _ (iz e6 (Z3e (base:=0) rfl .here rfl (Z03 c2)))<|Z8 _ (Z0b rfl (Zeo f2))<|Zn _ (iz e7 (Z3e (base:=0) rfl .here rfl (Z03 c3)))<|Z8 _ (iz e8 (Z9 rfl rfl rfl))<|Zn _ (iz e9 (Z3e (base:=0) rfl .here rfl (Z03 c4)))<|Z8 _ (Z0b rfl (Zeo f3))<|Z8 _ (iz e10 (Z9 rfl rfl rfl))<|Zn _ (iz e11 (Z3e (base:=0) rfl .here rfl (Z03 c5)))<|Z8 _ (iz e12 (Z9 rfl rfl rfl))<|Z8 _ (Z1s rfl rfl (Z0j c6))<|Z1z rfl (Z2l (q:=[.ints .u64 80 (l2)]) (base:=0) g2 rfl rfl rfl (Z03 c6) rfl .here<|Z00<|⟨l2,h,⟨⟨rfl,rfl,rfl,rfl,trivial⟩,(.o (.o (.o .nil)))⟩⟩)
    ·rintro t m ⟨a3,h,hF⟩
     refine Zk hF ?_
     clear hF
     subst q3
     refine bH h fun z13 e13 h=>Z2<|Z6 _ (iz e13 (Z9 rfl rfl rfl))<|Z7 rfl<|Z1 ?_
     rw [q2] at h
     exact ⟨n1,Nat.lt_succ_self _,z13,a3,h,⟨⟨rfl,rfl,rfl,rfl,trivial⟩,(.o (.o (.o .nil)))⟩⟩
   ·exact Zx _ rfl<|⟨a2,h,⟨⟨rfl,rfl,trivial⟩,(.o (.o (.o .nil)))⟩⟩
 ·rintro t m ⟨a1,h,hF⟩
  refine Zk hF ?_
  clear hF
  subst q1
  refine Z0<|Z2<|Z6 _ (Zy (p:=[.ints .u64 80 (a1)]) rfl .here rfl)<|Zg (Zs (q:=[.ints .u64 80 (a1)]) rfl rfl rfl rfl rfl .t1<|Z1<|Zi ?_)
  revert h; refine Zt fun h=>?_
  subst h
  exact ⟨_,(.cons (.agg rfl .t1 rfl) .nil),rfl⟩
def Zbf (p0:Int) (p1:Int) (p2:Int) (p3:Int):Option Int :=
 opt (Z46 p0 p1) fun y1 =>
 opt (Z46 p0 p2) fun y2 =>
 bnd (Z4 .xor .u64 y1 y2) fun z1 =>
 opt (Z46 p0 p3) fun y3 =>
 bnd (Z4 .xor .u64 z1 y3) fun z2 =>
 some z2
theorem Zfz {W:World} {r:Int} {p0:Int} {p1:Int} {p2:Int} {p3:Int} (h:Zbf p0 p1 p2 p3=some r)  :
    Calls Tryz.prog 202 [.int .u64 (p0),.int .i64 (p1),.int .i64 (p2),.int .i64 (p3)].toArray W (Z36 W (.int .u64 (r))):=by
 unfold Zbf at h
 refine Zc mo Z0ox rfl ?_
 refine Z0<|Z2<|Z7 rfl<|Z1<|Z0<|oH h fun y1 f1 h=>oH h fun y2 f2 h=>bH h fun z1 e1 h=>oH h fun y3 f3 h=>bH h fun z2 e2 h=>Z2<|Z7 rfl<|Z7 rfl<|Z6 _ (Z0b rfl (Z3u f1))<|Z7 rfl<|Z7 rfl<|Z6 _ (Z0b rfl (Z3u f2))<|Z6 _ (iz e1 (Z9 rfl rfl rfl))<|Z7 rfl<|Z7 rfl<|Z6 _ (Z0b rfl (Z3u f3))<|Z6 _ (iz e2 (Z9 rfl rfl rfl))<|Z7 rfl<|Z1<|Zi ?_
 revert h; refine Zt fun h=>?_
 subst h
 exact ⟨_,(.cons (.tmp rfl) .nil),rfl⟩
def Z7d (y1:(LI)) (k1:Int->Int->Int->Int->Int->Int->Int->Int->OL) (k2:Int->Int->Int->Int->Int->Int->Int->Int->Int->OL) (i1:Int) (i2:Int) (i3:Int) (i4:Int) (i5:Int) (i6:Int) (i7:Int) (i8:Int) (i9:Int):OL :=
 br ((decide (i9<80))) (
 chk (inB i9 80) <|
 bnd (G_table.getD (i9).toNat 0) fun z1 =>
 opt (Zbf i5 14 18 41) fun y2 =>
 bnd (wrap .u64 (i8+y2)) fun z2 =>
 bnd (Z4 .and .u64 i5 i6) fun z3 =>
 bnd (Z4 .xor .u64 18446744073709551615 i5) fun z4 =>
 bnd (Z4 .and .u64 z4 i7) fun z5 =>
 bnd (Z4 .xor .u64 z3 z5) fun z6 =>
 bnd (wrap .u64 (z2+z6)) fun z7 =>
 bnd (wrap .u64 (z7+z1)) fun z8 =>
 chk (inB i9 80) <|
 bnd (y1.getD (i9).toNat 0) fun z9 =>
 bnd (wrap .u64 (z8+z9)) fun z10 =>
 opt (Zbf i1 28 34 39) fun y3 =>
 bnd (Z4 .and .u64 i1 i2) fun z11 =>
 bnd (Z4 .and .u64 i1 i3) fun z12 =>
 bnd (Z4 .xor .u64 z11 z12) fun z13 =>
 bnd (Z4 .and .u64 i2 i3) fun z14 =>
 bnd (Z4 .xor .u64 z13 z14) fun z15 =>
 bnd (wrap .u64 (y3+z15)) fun z16 =>
 bnd (wrap .u64 (i4+z10)) fun z17 =>
 bnd (wrap .u64 (z10+z16)) fun z18 =>
 bnd (wrap .i64 (i9+1)) fun z19 =>
 k2 z18 i1 i2 i3 z17 i5 i6 i7 z19
 ) (
 k1 i1 i2 i3 i4 i5 i6 i7 i8
 )
def Z33 (y1:(LI)) (k1:Int->Int->Int->Int->Int->Int->Int->Int->OL):Nat->Int->Int->Int->Int->Int->Int->Int->Int->Int->OL
  | 0,_,_,_,_,_,_,_,_,_=>none
  | n+1,i1,i2,i3,i4,i5,i6,i7,i8,i9=>Z7d y1 k1 (Z33 y1 k1 n) i1 i2 i3 i4 i5 i6 i7 i8 i9
def Zc3 (z1:LI) (k1:(LI)->OL) (k2:Int->(LI)->OL) (i1:Int) (a1:LI):OL :=
 br ((decide (i1<8))) (
 chk (inB i1 8) <|
 bnd (z1.getD (i1).toNat 0) fun z2 =>
 chk (inB i1 8) <|
 bnd (a1.getD (i1).toNat 0) fun z3 =>
 bnd (wrap .u64 (z3+z2)) fun z4 =>
 chk (inB i1 8) <|
 bnd (Z2u a1 (i1).toNat z4) fun l1 =>
 bnd (wrap .i64 (i1+1)) fun z5 =>
 k2 z5 l1
 ) (
 k1 a1
 )
def Z5u (z1:LI) (k1:(LI)->OL):Nat->Int->(LI)->OL
  | 0,_,_=>none
  | n+1,i1,a1=>Zc3 z1 k1 (Z5u z1 k1 n) i1 a1
def Z8y (p0:LI) (p1:LI):OL :=
 opt (Z7e p1) fun y1 =>
 bnd (p0.getD 0 0) fun z1 =>
 bnd (p0.getD 1 0) fun z2 =>
 bnd (p0.getD 2 0) fun z3 =>
 bnd (p0.getD 3 0) fun z4 =>
 bnd (p0.getD 4 0) fun z5 =>
 bnd (p0.getD 5 0) fun z6 =>
 bnd (p0.getD 6 0) fun z7 =>
 bnd (p0.getD 7 0) fun z8 =>
 jn (fun (i1:Int) (i2:Int) (i3:Int) (i4:Int) (i5:Int) (i6:Int) (i7:Int) (i8:Int)=>bnd (([i1,i2,i3,i4,i5,i6,i7,i8]:LI)) fun z9 =>
 jn (fun (a1:LI)=>some a1) fun k1=>Z5u z9 k1 big 0 p0) fun k2=>Z33 y1 k2 big z1 z2 z3 z4 z5 z6 z7 z8 0
theorem Zjt {W:World} {r:(LI)} {p0:LI} {p1:LI} (h:Z8y p0 p1=some r) (hG:Globs W) :
    Calls Tryz.prog 159 [agg [u8' p0],agg [.ints .u8 128 (p1)]].toArray W (Z36 W (agg [u8' r])):=by
 unfold Z8y at h
 refine Zc mo Z0nw rfl ?_
 refine Z0<|Z2<|Zg (Z0k (s:=[u8' p0]) rfl fun b1 u1=>Zg (Z0k (s:=[.ints .u8 128 (p1)]) rfl fun b2 u2=>Zg (Zv fun b3 u3=>Z1<|Z0<|oH h fun y1 f1 h=>Z2<|Z6 _ (Zy (p:=[.ints .u8 128 (p1)]) rfl .t1 rfl)<|Z6 _ (Z0b rfl (Zgu f1))<|Zg (Zv fun b4 u4=>Zg (Zs (q:=[.ints .u64 80 (y1)]) rfl rfl rfl rfl rfl .here<|Z1<|Z0<|bH h fun z1 e1 h=>bH h fun z2 e2 h=>bH h fun z3 e3 h=>bH h fun z4 e4 h=>Zr<|Z8 _ (Z1s rfl rfl (by decide))<|Z8 _ (Z1s rfl rfl (by decide))<|Z8 _ (Z1s rfl rfl (by decide))<|Z8 _ (Z1s rfl rfl (by decide))<|Zn _ (iz e1 (Z1y rfl .t3 rfl))<|Z8 _ (Z0u rfl)<|Zn _ (iz e2 (Z1y rfl .t3 rfl))<|Z8 _ (Z0u rfl)<|Zn _ (iz e3 (Z1y rfl .t3 rfl))<|Z8 _ (Z0u rfl)<|Zn _ (iz e4 (Z1y rfl .t3 rfl))<|Z8 _ (Z0u rfl)<|Z00<|Z0<|bH h fun z5 e5 h=>bH h fun z6 e6 h=>bH h fun z7 e7 h=>bH h fun z8 e8 h=>Zr<|Z8 _ (Z1s rfl rfl (by decide))<|Z8 _ (Z1s rfl rfl (by decide))<|Z8 _ (Z1s rfl rfl (by decide))<|Z8 _ (Z1s rfl rfl (by decide))<|Zn _ (iz e5 (Z1y rfl .t3 rfl))<|Z8 _ (Z0u rfl)<|Zn _ (iz e6 (Z1y rfl .t3 rfl))<|Z8 _ (Z0u rfl)<|Zn _ (iz e7 (Z1y rfl .t3 rfl))<|Z8 _ (Z0u rfl)<|Zn _ (iz e8 (Z1y rfl .t3 rfl))<|Z8 _ (Z0u rfl)<|Z00<|Z0<|Z0<|Z2<|Z6 _ (Zsu (o0:=0) (off:=0) rfl (hG.g4) (by simp) rfl)<|Z7 rfl<|Z1<|jH h fun k1 q1 h=>Zm (G:=fun t m=>∃ (i1:Int) (i2:Int) (i3:Int) (i4:Int) (i5:Int) (i6:Int) (i7:Int) (i8:Int),k1 i1 i2 i3 i4 i5 i6 i7 i8=some r/\Fit [(2,pt' b1),(4,pt' b3),(6,.int .u64 (i1)),(7,.int .u64 (i2)),(8,.int .u64 (i3)),(9,.int .u64 (i4)),(10,.int .u64 (i5)),(11,.int .u64 (i6)),(12,.int .u64 (i7)),(13,.int .u64 (i8))] (ck b4 211 [.ints .u64 80 (y1)]::(ck b3 144 [u8' (replicate 8 0)]::(ck b2 192 [.ints .u8 128 (p1)]::(ck b1 144 [u8' p0] :: [])))) t m) ?_ ?_)))))
 ·refine Za<|Zp (fun n1 t m=>∃ (i9:Int) (i10:Int) (i11:Int) (i12:Int) (i13:Int) (i14:Int) (i15:Int) (i16:Int) (i17:Int),Z33 y1 k1 n1 i9 i10 i11 i12 i13 i14 i15 i16 i17=some r/\Fit [(2,pt' b1),(4,pt' b3),(5,pt' b4),(6,.int .u64 (i9)),(7,.int .u64 (i10)),(8,.int .u64 (i11)),(9,.int .u64 (i12)),(10,.int .u64 (i13)),(11,.int .u64 (i14)),(12,.int .u64 (i15)),(13,.int .u64 (i16)),(38,agg [.ints .u64 80 (G_table)]),(39,.int .i64 (i17))] (ck b4 211 [.ints .u64 80 (y1)]::(ck b3 144 [u8' (replicate 8 0)]::(ck b2 192 [.ints .u8 128 (p1)]::(ck b1 144 [u8' p0] :: [])))) t m) big ?_ ?_
  ·exact ⟨z1,z2,z3,z4,z5,z6,z7,z8,0,h,⟨⟨rfl,rfl,rfl,rfl,rfl,rfl,rfl,rfl,rfl,rfl,rfl,rfl,rfl,trivial⟩,(.o (.o (.o (.o .nil))))⟩⟩
  ·rintro n1 t m ⟨i9,i10,i11,i12,i13,i14,i15,i16,i17,h,hF⟩
   refine Zk hF ?_
   clear hF
   rcases n1 with _ | n1
   · exact Z0a h
   have h:Z7d y1 k1 (Z33 y1 k1 n1) i9 i10 i11 i12 i13 i14 i15 i16 i17=some r:=h
   unfold Z7d at h
   obtain ⟨k2,q2⟩ : ∃ k,k=Z33 y1 k1 n1:=⟨_,rfl⟩
   try rw [<- q2] at h
   refine Z0<|Z2<|Z6 _ (Z9 rfl rfl rfl)<|Z1<|Z0<|Z02 h rfl (fun h=>?_) (fun h=>?_)
   ·refine Ze<|Z0<|Za<|Z0<|cH h fun c1 h=>bH h fun z9 e9 h=>Z2<|Z7 rfl<|Z6 _ (iz e9 (Zk5 (len:=80) rfl rfl (Z0j c1)))<|Z7 rfl<|Z7 rfl<|Z1<|Z0<|oH h fun y2 f2 h=>bH h fun z10 e10 h=>bH h fun z11 e11 h=>bH h fun z12 e12 h=>bH h fun z13 e13 h=>bH h fun z14 e14 h=>bH h fun z15 e15 h=>bH h fun z16 e16 h=>cH h fun c2 h=>bH h fun z17 e17 h=>bH h fun z18 e18 h=>Zr<|Z8 _ (Z0u rfl)<|Z8 _ (Z0u rfl)<|Z8 _ (Z0b rfl (Zfz f2))<|Z8 _ (iz e10 (Z9 rfl rfl rfl))<|Z8 _ (Z0u rfl)<|Z8 _ (Z0u rfl)<|Z8 _ (iz e11 (Z9 rfl rfl rfl))<|Z8 _ (Z0u rfl)<|Z8 _ (iz e12 (Zl0 rfl rfl))<|Z8 _ (Z0u rfl)<|Z8 _ (iz e13 (Z9 rfl rfl rfl))<|Z8 _ (iz e14 (Z9 rfl rfl rfl))<|Z8 _ (iz e15 (Z9 rfl rfl rfl))<|Z8 _ (Z0u rfl)<|Z8 _ (iz e16 (Z9 rfl rfl rfl))<|Z8 _ (Z0u rfl)<|Z8 _ (Z1s rfl rfl (Z0j c2))<|Zn _ (iz e17 (Z3e (base:=0) rfl .here rfl (Z03 c2)))<|Z8 _ (iz e18 (Z9 rfl rfl rfl))<|Z8 _ (Z0u rfl)<|Z00<|Z0<|oH h fun y3 f3 h=>bH h fun z19 e19 h=>bH h fun z20 e20 h=>bH h fun z21 e21 h=>bH h fun z22 e22 h=>bH h fun z23 e23 h=>bH h fun z24 e24 h=>Z2<|Z7 rfl<|Z6 _ (Z0b rfl (Zfz f3))<|Z7 rfl<|Z7 rfl<|Z6 _ (iz e19 (Z9 rfl rfl rfl))<|Z7 rfl<|Z7 rfl<|Z6 _ (iz e20 (Z9 rfl rfl rfl))<|Z6 _ (iz e21 (Z9 rfl rfl rfl))<|Z7 rfl<|Z7 rfl<|Z6 _ (iz e22 (Z9 rfl rfl rfl))<|Z6 _ (iz e23 (Z9 rfl rfl rfl))<|Z6 _ (iz e24 (Z9 rfl rfl rfl))<|Z7 rfl<|Z1<|bH h fun z25 e25 h=>bH h fun z26 e26 h=>Z2<|Z7 rfl<|Z7 rfl<|Z7 rfl<|Z7 rfl<|Z7 rfl<|Z6 _ (iz e25 (Z9 rfl rfl rfl))<|Z7 rfl<|Z7 rfl<|Z7 rfl<|Z7 rfl<|Z7 rfl<|Z6 _ (iz e26 (Z9 rfl rfl rfl))<|Z7 rfl<|Z7 rfl<|Z7 rfl<|Z7 rfl<|Z7 rfl<|Z7 rfl<|Z7 rfl<|Z7 rfl<|Z1<|bH h fun z27 e27 h=>Z2<|Z6 _ (iz e27 (Z9 rfl rfl rfl))<|Z7 rfl<|Z1 ?_
    rw [q2] at h
    exact ⟨n1,Nat.lt_succ_self _,z26,i9,i10,i11,z25,i13,i14,i15,z27,h,⟨⟨rfl,rfl,rfl,rfl,rfl,rfl,rfl,rfl,rfl,rfl,rfl,rfl,rfl,trivial⟩,(.o (.o (.o (.o .nil))))⟩⟩
   ·exact Zx _ rfl<|⟨i9,i10,i11,i12,i13,i14,i15,i16,h,⟨⟨rfl,rfl,rfl,rfl,rfl,rfl,rfl,rfl,rfl,rfl,trivial⟩,(.o (.o (.o (.o .nil))))⟩⟩
 ·rintro t m ⟨i1,i2,i3,i4,i5,i6,i7,i8,h,hF⟩
  refine Zk hF ?_
  clear hF
  subst q1
  refine Z0<|Z0<|bH h fun z28 e28 h=>Z2<|Z7 rfl<|Z7 rfl<|Z7 rfl<|Z7 rfl<|Z7 rfl<|Z7 rfl<|Z7 rfl<|Z7 rfl<|Z6 _ (az (fun z=>agg [.ints .u64 8 z]) e28 (Zct (.one rfl rfl rfl (.one rfl rfl rfl (.one rfl rfl rfl (.one rfl rfl rfl (.one rfl rfl rfl (.one rfl rfl rfl (.one rfl rfl rfl (.one rfl rfl rfl BdR.nil))))))))))<|Z7 rfl<|Z1<|jH h fun k3 q3 h=>Zm (G:=fun t m=>∃ (a1:LI),k3 a1=some r/\Fit [(2,pt' b1),(4,pt' b3)] (ck b4 211 [.ints .u64 80 (y1)]::(ck b3 144 [u8' (replicate 8 0)]::(ck b2 192 [.ints .u8 128 (p1)]::(ck b1 144 [u8' a1] :: [])))) t m) ?_ ?_
  ·refine Za<|Zp (fun n2 t m=>∃ (i18:Int) (a2:LI),Z5u z28 k3 n2 i18 a2=some r/\Fit [(2,pt' b1),(4,pt' b3),(97,agg [u8' z28]),(98,.int .i64 (i18))] (ck b4 211 [.ints .u64 80 (y1)]::(ck b3 144 [u8' (replicate 8 0)]::(ck b2 192 [.ints .u8 128 (p1)]::(ck b1 144 [u8' a2] :: [])))) t m) big ?_ ?_
   ·exact ⟨0,p0,h,⟨⟨rfl,rfl,rfl,rfl,trivial⟩,(.o (.o (.o (.o .nil))))⟩⟩
   ·rintro n2 t m ⟨i18,a2,h,hF⟩
    refine Zk hF ?_
    clear hF
    rcases n2 with _ | n2
    · exact Z0a h
    have h:Zc3 z28 k3 (Z5u z28 k3 n2) i18 a2=some r:=h
    unfold Zc3 at h
    obtain ⟨k4,q4⟩ : ∃ k,k=Z5u z28 k3 n2:=⟨_,rfl⟩
    try rw [<- q4] at h
    refine Z0<|Z2<|Z6 _ (Z9 rfl rfl rfl)<|Z1<|Z0<|Z02 h rfl (fun h=>?_) (fun h=>?_)
    ·refine Ze<|Z0<|Za<|Z0<|cH h fun c3 h=>bH h fun z29 e29 h=>Z2<|Z7 rfl<|Z6 _ (iz e29 (Zk5 (len:=8) rfl rfl (Z0j c3)))<|Z7 rfl<|Z7 rfl<|Z1<|cH h fun c4 h=>bH h fun z30 e30 h=>bH h fun z31 e31 h=>cH h fun c5 h=>bH h fun l1 g1 h=>Z2<|Z7 rfl<|Z6 _ (Z1s rfl rfl (Z0j c4))<|Z6 _ (iz e30 (Z3e (base:=0) rfl .t3 rfl (Z03 c4)))<|Z7 rfl<|Z6 _ (iz e31 (Z9 rfl rfl rfl))<|Z6 _ (Z1s rfl rfl (Z0j c5))<|Zg (Z2l (q:=[u8' l1]) (base:=0) g1 rfl rfl rfl (Z03 c5) rfl .t3<|Z1<|bH h fun z32 e32 h=>Z2<|Z6 _ (iz e32 (Z9 rfl rfl rfl))<|Z7 rfl<|Z1 ?_)
     rw [q4] at h
     exact ⟨n2,Nat.lt_succ_self _,z32,l1,h,⟨⟨rfl,rfl,rfl,rfl,trivial⟩,(.o (.o (.o (.o .nil))))⟩⟩
    ·exact Zx _ rfl<|⟨a2,h,⟨⟨rfl,rfl,trivial⟩,(.o (.o (.o (.o .nil))))⟩⟩
  ·rintro t m ⟨a1,h,hF⟩
   refine Zk hF ?_
   clear hF
   subst q3
   refine Z0<|Z2<|Z6 _ (Zy (p:=[u8' a1]) rfl .t3 rfl)<|Zg (Zs (q:=[u8' a1]) rfl rfl rfl rfl rfl .t1<|Z1<|Zi ?_)
   revert h; refine Zt fun h=>?_
   subst h
   exact ⟨_,(.cons (.agg rfl .t1 rfl) .nil),rfl⟩
def Z1c (z1:Int) (k1:(LI)->(LI)->(LI)->Int->Option (Zu)) (l1:LI) (a1:LI) (a2:LI) (i1:Int):Option (Zu) :=
 br ((decide ((l1.length:Int)>0))) (
 chk (Z97 i1 128 128) <|
 bnd (wr a2 (i1).toNat (l1.take (128-(i1).toNat))) fun l2 =>
 chk (Z97 ((Nat.min l1.length (128-(i1).toNat):Nat):Int) (l1.length:Int) l1.length) <|
 bnd (wrap .i64 (i1+((Nat.min l1.length (128-(i1).toNat):Nat):Int))) fun z2 =>
 br ((z2==128)) (
 opt (Z8y a1 l2) fun y1 =>
 k1 ((l1.drop (((Nat.min l1.length (128-(i1).toNat):Nat):Int)).toNat).take (((l1.length:Int)).toNat-(((Nat.min l1.length (128-(i1).toNat):Nat):Int)).toNat)) y1 l2 0
 ) (
 k1 ((l1.drop (((Nat.min l1.length (128-(i1).toNat):Nat):Int)).toNat).take (((l1.length:Int)).toNat-(((Nat.min l1.length (128-(i1).toNat):Nat):Int)).toNat)) a1 l2 z2
 )
 ) (
 some (⟨a1,a2,i1,z1⟩:Zu)
 )
def Z07 (z1:Int):Nat->(LI)->(LI)->(LI)->Int->Option (Zu)
  | 0,_,_,_,_=>none
  | n+1,l1,a1,a2,i1=>Z1c z1 (Z07 z1 n) l1 a1 a2 i1
def Z1r (p0:Zu) (p1:LI):Option (Zu) :=
 bnd (wrap .u64 (p1.length:Int)) fun z1 =>
 bnd (wrap .u64 (p0.glength+z1)) fun z2 =>
 Z07 z2 big p1 p0.gstate p0.gheld p0.ghave
theorem Z8z {W:World} {r:Zu} {p0:Zu} {p1:LI} {v1:Value} {b:Nat} {T:TypeId} (h:Z1r p0 p1=some r) (h0:Sat W [b] (ck b T [u8' p0.gstate,.ints .u8 128 (p0.gheld),.one (.int .i64 (p0.ghave)),.one (.int .u64 (p0.glength))] :: []) W) (hG:Globs W) (hS : ∀ g,g<ng->g ∉ [b]) (A1:RdSl (El.int .u8) W v1 p1/\Zad v1 p1 [b]) :
    Calls Tryz.prog 97 [.pointer (some ⟨b,0,none⟩),v1].toArray W (Zc6 W [b] (fun v Ms=>v = .tuple #[]/\Ms = [.one (ck b T [u8' r.gstate,.ints .u8 128 (r.gheld),.one (.int .i64 (r.ghave)),.one (.int .u64 (r.glength))])])):=by
 unfold Z1r at h
 refine Z04 mo ok97 rfl h0 ?_
 refine Z0<|bH h fun z1 e1 h=>bH h fun z2 e2 h=>Z2<|Z7 rfl<|Z6 _ (Z5s rfl)<|Z6 _ (Z4f rfl)<|Z6 _ (Z1y rfl .here rfl)<|Z7 rfl<|Z6 _ (Z22 rfl (Shp.rd A1.1))<|Z6 _ (iz e1 (Z4k rfl))<|Z6 _ (iz e2 (Z9 rfl rfl rfl))<|Z6 _ (Z5s rfl)<|Z6 _ (Z4f rfl)<|Zg (Zb4 (q:=[u8' p0.gstate,.ints .u8 128 (p0.gheld),.one (.int .i64 (p0.ghave)),.one (.int .u64 (z2))]) rfl rfl rfl rfl .here<|Z1<|Za<|Zp (fun n1 t m=>∃ (l1:LI) (a1:LI) (a2:LI) (i1:Int) (v38:Value),Z07 z2 n1 l1 a1 a2 i1=some r/\(RdSl (El.int .u8) W v38 l1/\Zad v38 l1 [b])/\Fit [(0,.pointer (some ⟨b,0,none⟩)),(1,v38)] (ck b T [u8' a1,.ints .u8 128 (a2),.one (.int .i64 (i1)),.one (.int .u64 (z2))] :: []) t m) big ?_ ?_)
 ·exact ⟨p1,p0.gstate,p0.gheld,p0.ghave,v1,h,A1,⟨⟨rfl,rfl,trivial⟩,(.o .nil)⟩⟩
 ·rintro n1 t m ⟨l1,a1,a2,i1,v38,h,A40,hF⟩
  refine Zk hF ?_
  clear hF
  rcases n1 with _ | n1
  · exact Z0a h
  have h:Z1c z2 (Z07 z2 n1) l1 a1 a2 i1=some r:=h
  unfold Z1c at h
  obtain ⟨k1,q1⟩ : ∃ k,k=Z07 z2 n1:=⟨_,rfl⟩
  try rw [<- q1] at h
  refine Z0<|Z0<|Z2<|Z7 rfl<|Z6 _ (Z22 rfl (Shp.rd A40.1))<|Z6 _ (Z9 rfl rfl rfl)<|Z1<|Z02 h rfl (fun h=>?_) (fun h=>?_)
  ·refine Ze<|Za<|Z0<|cH h fun c1 h=>bH h fun l2 g1 h=>Zr<|Z8 _ (Z0u rfl)<|Z8 _ (Z5s rfl)<|Z8 _ (Z4f rfl)<|Z8 _ (Z0u rfl)<|Z8 _ (Z5s rfl)<|Z8 _ (Z4f rfl)<|Z8 _ (Z0u rfl)<|Zn _ (Z1y rfl .here rfl)<|Z8 _ (Ze8 rfl (.yes rfl) .no .no (by simp) (cut4 c1))<|Z1z rfl (Zol (q:=[u8' a1,.ints .u8 128 (l2),.one (.int .i64 (i1)),.one (.int .u64 (z2))]) (lo:=(i1).toNat) (hi:=128) (mz:=128) (base:=8) g1 rfl rfl (Z0d A40.1 A40.2) rfl (cutn c1) rfl .here<|Z8 _ (Z0u rfl)<|Z00<|Z0<|cH h fun c2 h=>Z2<|Z7 rfl<|Z7 rfl<|Z6 _ (Zqx (lz:=((Nat.min l1.length (128-(i1).toNat):Nat):Int)) (hz:=(l1.length:Int)) rfl (Shp.rd A40.1) (.yes rfl) .no c2)<|Z7 rfl<|Z1<|Z0<|bH h fun z3 e3 h=>Z2<|Z7 rfl<|Z6 _ (Z5s rfl)<|Z6 _ (Z4f rfl)<|Z6 _ (Z1y rfl .here rfl)<|Z7 rfl<|Z6 _ (iz e3 (Z9 rfl rfl rfl))<|Z6 _ (Z5s rfl)<|Z6 _ (Z4f rfl)<|Zg (Zb4 (q:=[u8' a1,.ints .u8 128 (l2),.one (.int .i64 (z3)),.one (.int .u64 (z2))]) rfl rfl rfl rfl .here<|Z1<|Z0<|Z2<|Z7 rfl<|Z6 _ (Z5s rfl)<|Z6 _ (Z4f rfl)<|Z6 _ (Z1y rfl .here rfl)<|Z6 _ (Z9 rfl rfl rfl)<|Z1<|Z02 h rfl (fun h=>?_) (fun h=>?_)))
   ·refine Z0<|oH h fun y1 f1 h=>Zr<|Z8 _ (Z0u rfl)<|Z8 _ (Z0u rfl)<|Z8 _ (Z5s rfl)<|Z8 _ (Z4f rfl)<|Z8 _ (Z0u rfl)<|Z8 _ (Z5s rfl)<|Z8 _ (Z4f rfl)<|Zn _ (Zy (p:=[u8' a1]) rfl .here rfl)<|Zn _ (Zy (p:=[.ints .u8 128 (l2)]) rfl .here rfl)<|Z8 _ (Z0p rfl (fun w hw=>Zjt f1 (hG.at hw hS)))<|Z8 _ (Z5s rfl)<|Z8 _ (Z4f rfl)<|Z1z rfl (Zs (q:=[u8' y1,.ints .u8 128 (l2),.one (.int .i64 (z3)),.one (.int .u64 (z2))]) rfl rfl rfl rfl rfl .here<|Z00<|Z2<|Z7 rfl<|Z6 _ (Z5s rfl)<|Z6 _ (Z4f rfl)<|Zg (Zb4 (q:=[u8' y1,.ints .u8 128 (l2),.one (.int .i64 (0)),.one (.int .u64 (z2))]) rfl rfl rfl rfl .here<|Z1 ?_))
    rw [q1] at h
    exact ⟨n1,Nat.lt_succ_self _,((l1.drop (((Nat.min l1.length (128-(i1).toNat):Nat):Int)).toNat).take (((l1.length:Int)).toNat-(((Nat.min l1.length (128-(i1).toNat):Nat):Int)).toNat)),y1,l2,0,(Z53 1 v38 (((Nat.min l1.length (128-(i1).toNat):Nat):Int)).toNat ((l1.length:Int)).toNat),h,(Z04i A40 (lz:=((Nat.min l1.length (128-(i1).toNat):Nat):Int)) (hz:=(l1.length:Int)) c2),⟨⟨rfl,rfl,trivial⟩,(.o .nil)⟩⟩
   ·refine Ze ?_
    rw [q1] at h
    exact ⟨n1,Nat.lt_succ_self _,((l1.drop (((Nat.min l1.length (128-(i1).toNat):Nat):Int)).toNat).take (((l1.length:Int)).toNat-(((Nat.min l1.length (128-(i1).toNat):Nat):Int)).toNat)),a1,l2,z3,(Z53 1 v38 (((Nat.min l1.length (128-(i1).toNat):Nat):Int)).toNat ((l1.length:Int)).toNat),h,(Z04i A40 (lz:=((Nat.min l1.length (128-(i1).toNat):Nat):Int)) (hz:=(l1.length:Int)) c2),⟨⟨rfl,rfl,trivial⟩,(.o .nil)⟩⟩
  ·refine Zx _ rfl ?_
   revert h; refine Zt fun h=>?_
   subst h
   exact ⟨_,_,.nil,(.o .nil),⟨_,rfl,⟨rfl,rfl⟩⟩⟩
def Z6m (k1:(LI)->OL) (k2:Int->(LI)->Int->OL) (i1:Int) (l1:LI) (i2:Int):OL :=
 br ((decide (i2≥0))) (
 bnd (wrap .u8 i1) fun z1 =>
 chk (inB i2 l1.length) <|
 bnd (Zdu 0 l1 (i2).toNat z1) fun l2 =>
 bnd (Zq .u64 i1 8) fun z2 =>
 bnd (wrap .i64 (i2-1)) fun z3 =>
 k2 z2 l2 z3
 ) (
 k1 l1
 )
def Z3b (k1:(LI)->OL):Nat->Int->(LI)->Int->OL
  | 0,_,_,_=>none
  | n+1,i1,l1,i2=>Z6m k1 (Z3b k1 n) i1 l1 i2
def Z24 (p0:Int):OL :=
 opt (Z3f) fun y1 =>
 bnd (wrap .i64 (Int.tdiv y1 8)) fun z1 =>
 chk (mkB 1 z1 z1) <|
 bnd (wrap .i64 (((replicate (z1).toNat 0:LI).length:Int)-1)) fun z2 =>
 jn (fun (l1:LI)=>some l1) fun k1=>Z3b k1 big p0 (replicate (z1).toNat 0:LI) z2
theorem Z5k {W:World} {r:(LI)} {p0:Int} (h:Z24 p0=some r)  :
    Calls Tryz.prog 118 [.int .u64 (p0)].toArray W (Zc6 W [] (fun v Ms=>∃ (u0:Value) (M1:List Zf),v=u0/\Ms = [.all M1]/\Z0m (El.int .u8) u0 M1 r)):=by
 unfold Z24 at h
 refine Z04 mo Z0mu rfl (Zh8 _) ?_
 refine Z0<|Z2<|Z7 rfl<|Z1<|Z0<|oH h fun y1 f1 h=>bH h fun z1 e1 h=>cH h fun c1 h=>Z2<|Z6 _ (Z0b rfl (Z4w f1))<|Z6 _ (iz e1 (Zb8 rfl rfl (by decide)))<|Zg (Zj0 (E:=(El.int .u8)) rfl rfl rfl c1 fun v6 w1 O1=>Z7 rfl<|Z1<|Z0<|Z0<|bH h fun z2 e2 h=>Z2<|Z7 rfl<|Z6 _ (Z22 rfl (Shp.own O1))<|Z6 _ (iz e2 (Z9 rfl rfl rfl))<|Z7 rfl<|Z1<|jH h fun k1 q1 h=>Zm (G:=fun t m=>∃ (l1:LI) (v61:Value) (w2:List Zf),k1 l1=some r/\Z0m (El.int .u8) v61 w2 l1/\Fit [(3,v61)] (w2 ++ []) t m) ?_ ?_)
 ·refine Za<|Zp (fun n1 t m=>∃ (i1:Int) (l2:LI) (i2:Int) (v97:Value) (w3:List Zf),Z3b k1 n1 i1 l2 i2=some r/\Z0m (El.int .u8) v97 w3 l2/\Fit [(0,.int .u64 (i1)),(3,v97),(4,.int .i64 (i2))] (w3 ++ []) t m) big ?_ ?_
  ·exact ⟨p0,(replicate (z1).toNat 0:LI),z2,v6,w1,h,O1,⟨⟨rfl,rfl,rfl,trivial⟩,(.all .here .nil)⟩⟩
  ·rintro n1 t m ⟨i1,l2,i2,v97,w3,h,O2,hF⟩
   refine Zk hF ?_
   clear hF
   rcases n1 with _ | n1
   · exact Z0a h
   have h:Z6m k1 (Z3b k1 n1) i1 l2 i2=some r:=h
   unfold Z6m at h
   obtain ⟨k2,q2⟩ : ∃ k,k=Z3b k1 n1:=⟨_,rfl⟩
   try rw [<- q2] at h
   refine Z0<|Z0<|Z2<|Z7 rfl<|Z6 _ (Z9 rfl rfl rfl)<|Z1<|Z02 h rfl (fun h=>?_) (fun h=>?_)
   ·refine Ze<|Z0<|Za<|Z0<|bH h fun z3 e3 h=>cH h fun c2 h=>bH h fun l3 g1 h=>Z2<|Z7 rfl<|Z7 rfl<|Z7 rfl<|Z6 _ (iz e3 (Z4k rfl))<|Z6 _ (Z2t rfl rfl (Shp.own O2) c2)<|Zg (Zhz (E:=(El.int .u8)) g1 O2 .here rfl rfl rfl (Z03 c2) fun w4 O3=>Z1<|bH h fun z4 e4 h=>Z2<|Z7 rfl<|Z6 _ (iz e4 (Z5g rfl rfl (by decide)))<|Z7 rfl<|Z1<|bH h fun z5 e5 h=>Z2<|Z7 rfl<|Z6 _ (iz e5 (Z9 rfl rfl rfl))<|Z7 rfl<|Z1 ?_)
    rw [q2] at h
    exact ⟨n1,Nat.lt_succ_self _,z4,l3,z5,v97,w4,h,O3,⟨⟨rfl,rfl,rfl,trivial⟩,(.all .here .nil)⟩⟩
   ·exact Zx _ rfl<|⟨l2,v97,w3,h,O2,⟨⟨rfl,trivial⟩,(.all .here .nil)⟩⟩
 ·rintro t m ⟨l1,v61,w2,h,O4,hF⟩
  refine Zk hF ?_
  clear hF
  subst q1
  refine Z0<|Z2<|Z7 rfl<|Z7 rfl<|Z1<|Zi ?_
  revert h; refine Zt fun h=>?_
  subst h
  exact ⟨_,_,(.cons (.tmp rfl) .nil),(.all .here .nil),⟨_,rfl,⟨v61,w2,rfl,rfl,O4⟩⟩⟩
def Z4s (p0:Zu):Option (Zu×Zu) :=
 some (p0,p0)
theorem Zdp {W:World} {r:Zu×Zu} {p0:Zu} {b:Nat} {T:TypeId} (h:Z4s p0=some r) (h0:Sat W [b] (ck b T [u8' p0.gstate,.ints .u8 128 (p0.gheld),.one (.int .i64 (p0.ghave)),.one (.int .u64 (p0.glength))] :: []) W) :
    Calls Tryz.prog 163 [.pointer (some ⟨b,0,none⟩)].toArray W (Zc6 W [b] (fun v Ms=>∃ (b1:Nat) (T0:TypeId),v = pt' b1/\Ms = [.one (ck b1 T0 [u8' r.1.gstate,.ints .u8 128 (r.1.gheld),.one (.int .i64 (r.1.ghave)),.one (.int .u64 (r.1.glength))]),.one (ck b T [u8' r.2.gstate,.ints .u8 128 (r.2.gheld),.one (.int .i64 (r.2.ghave)),.one (.int .u64 (r.2.glength))])])):=by
 unfold Z4s at h
 refine Z04 mo Z0o0 rfl h0 ?_
 refine Z0<|Z2<|Z7 rfl<|Z1<|Z0<|Z2<|Z7 rfl<|Z6 _ (Z5s rfl)<|Z6 _ (Zy (p:=[u8' p0.gstate,.ints .u8 128 (p0.gheld),.one (.int .i64 (p0.ghave)),.one (.int .u64 (p0.glength))]) rfl .here rfl)<|Zg (Zv fun b2 u1=>Zg (Zs (q:=[u8' p0.gstate,.ints .u8 128 (p0.gheld),.one (.int .i64 (p0.ghave)),.one (.int .u64 (p0.glength))]) rfl rfl rfl rfl rfl .here<|Z1<|Z0<|Z2<|Z7 rfl<|Z1<|Zi ?_))
 revert h; refine Zt fun h=>?_
 subst h
 exact ⟨_,_,(.cons (.tmp rfl) .nil),(.o (.o .nil)),⟨_,rfl,⟨b2,194,rfl,rfl⟩⟩⟩
def Z7m (p0:Int):OL :=
 bnd (wrap .u64 (p0+17)) fun z1 =>
 bnd (Int.tmod z1 128) fun z2 =>
 bnd (wrap .i64 z2) fun z3 =>
 bnd (wrap .i64 (128-z3)) fun z4 =>
 bnd (Int.tmod z4 128) fun z5 =>
 bnd (wrap .i64 (17+z5)) fun z6 =>
 chk (mkB 1 0 z6) <|
 chk (decide (((replicate 0 0:LI).length+([128]:LI).length)*1<=140737488355328)) <|
 bnd ((replicate 0 0:LI)++([128]:LI)) fun l1 =>
 chk (decide (0<=z5)) <|
 chk (decide ((l1.length+(z5).toNat)*1<=140737488355328)) <|
 bnd (l1++replicate (z5).toNat 0) fun l2 =>
 bnd (Zq .u64 p0 61) fun z7 =>
 opt (Z24 z7) fun y1 =>
 chk (decide ((l2.length+y1.length)*1<=140737488355328)) <|
 bnd (l2++y1) fun l3 =>
 bnd (Zl .u64 p0 3) fun z8 =>
 opt (Z24 z8) fun y2 =>
 chk (decide ((l3.length+y2.length)*1<=140737488355328)) <|
 bnd (l3++y2) fun l4 =>
 some l4
theorem Zmh {W:World} {r:(LI)} {p0:Int} (h:Z7m p0=some r)  :
    Calls Tryz.prog 164 [.int .u64 (p0)].toArray W (Zc6 W [] (fun v Ms=>∃ (u0:Value) (M1:List Zf),v=u0/\Ms = [.all M1]/\Z0m (El.int .u8) u0 M1 r)):=by
 unfold Z7m at h
 refine Z04 mo Z0o1 rfl (Zh8 _) ?_
 refine Z0<|Z2<|Z7 rfl<|Z1<|Z0<|bH h fun z1 e1 h=>bH h fun z2 e2 h=>bH h fun z3 e3 h=>bH h fun z4 e4 h=>bH h fun z5 e5 h=>Z2<|Z7 rfl<|Z6 _ (iz e1 (Z9 rfl rfl rfl))<|Z6 _ (iz e2 (Zdl rfl rfl (by decide)))<|Z6 _ (iz e3 (Z4k rfl))<|Z6 _ (iz e4 (Z9 rfl rfl rfl))<|Z6 _ (iz e5 (Zdl rfl rfl (by decide)))<|Z7 rfl<|Z1<|Z0<|bH h fun z6 e6 h=>cH h fun c1 h=>Z2<|Z7 rfl<|Z6 _ (iz e6 (Z9 rfl rfl rfl))<|Zg (Zj0 (E:=(El.int .u8)) rfl rfl rfl c1 fun v11 w1 O1=>Z7 rfl<|Z1<|Z0<|cH h fun c2 h=>bH h fun l1 g1 h=>Z2<|Z7 rfl<|Zg (Z5m (E:=(El.int .u8)) (xs:=[128]) (.one rfl rfl rfl BdR.nil) (.cons (p:=[.one (.int .u8 (128))]) rfl .nil) rfl fun v15 w2 O2=>Zg (Z38 (E:=(El.int .u8)) g1 rfl O1 (.app .here) rfl (Z0f O2 .here) c2 fun v20 w3 O3=>Z7 rfl<|Z1<|Z0<|cH h fun c3 h=>cH h fun c4 h=>bH h fun l2 g2 h=>Z2<|Z7 rfl<|Z7 rfl<|Zg (Z05z (E:=(El.int .u8)) g2 rfl O3 .here rfl c3 rfl c4 fun v27 w4 O4=>Z7 rfl<|Z1<|Z0<|bH h fun z7 e7 h=>oH h fun y1 f1 h=>cH h fun c5 h=>bH h fun l3 g3 h=>Z2<|Z7 rfl<|Z7 rfl<|Z6 _ (iz e7 (Z5g rfl rfl (by decide)))<|Zg (Z06 rfl (fun w hw=>Z5k  f1 ) fun v33 o1 R1=>?_)))))
 obtain ⟨_,w5,rfl,rfl,O5⟩:=R1
 refine Zg (Z38 (E:=(El.int .u8)) g3 rfl O4 (.app .here) rfl (Z0f O5 .here) c5 fun v40 w6 O6=>Z7 rfl<|Z1<|Z0<|bH h fun z8 e8 h=>oH h fun y2 f2 h=>cH h fun c6 h=>bH h fun l4 g4 h=>Z2<|Z7 rfl<|Z7 rfl<|Z6 _ (iz e8 (Zkk rfl rfl (by decide)))<|Zg (Z06 rfl (fun w hw=>Z5k  f2 ) fun v46 o2 R2=>?_))
 obtain ⟨_,w7,rfl,rfl,O7⟩:=R2
 refine Zg (Z38 (E:=(El.int .u8)) g4 rfl O6 (.app .here) rfl (Z0f O7 .here) c6 fun v53 w8 O8=>Z7 rfl<|Z1<|Zi ?_)
 revert h; refine Zt fun h=>?_
 subst h
 exact ⟨_,_,(.cons (.tmp rfl) .nil),(.all .here .nil),⟨_,rfl,⟨v53,w8,rfl,rfl,O8⟩⟩⟩
def Z7q (y1:Zu) (k1:(LI)->Option ((LI)×Zu)) (k2:Int->(LI)->Option ((LI)×Zu)) (i1:Int) (a1:LI):Option ((LI)×Zu) :=
 br ((decide (i1<8))) (
 chk (inB i1 8) <|
 bnd (y1.gstate.getD (i1).toNat 0) fun z1 =>
 bnd (wrap .i64 (8*i1)) fun z2 =>
 chk (Z97 z2 64 64) <|
 opt (Z24 z1) fun y2 =>
 bnd (wr a1 (z2).toNat (y2.take (64-(z2).toNat))) fun l1 =>
 bnd (wrap .i64 (i1+1)) fun z3 =>
 k2 z3 l1
 ) (
 k1 a1
 )
def Z2m (y1:Zu) (k1:(LI)->Option ((LI)×Zu)):Nat->Int->(LI)->Option ((LI)×Zu)
  | 0,_,_=>none
  | n+1,i1,a1=>Z7q y1 k1 (Z2m y1 k1 n) i1 a1
def Z2v (p0:Zu):Option ((LI)×Zu) :=
 opt (Z4s p0) fun y1 =>
 opt (Z7m y1.2.glength) fun y2 =>
 opt (Z1r y1.1 y2) fun y3 =>
 jn (fun (a1:LI)=>some (a1,y1.2)) fun k1=>Z2m y3 k1 big 0 (replicate 64 0)
theorem Zet {W:World} {r:(LI)×Zu} {p0:Zu} {b:Nat} {T:TypeId} (h:Z2v p0=some r) (h0:Sat W [b] (ck b T [u8' p0.gstate,.ints .u8 128 (p0.gheld),.one (.int .i64 (p0.ghave)),.one (.int .u64 (p0.glength))] :: []) W) (hG:Globs W) (hS : ∀ g,g<ng->g ∉ [b]) :
    Calls Tryz.prog 99 [.pointer (some ⟨b,0,none⟩)].toArray W (Zc6 W [b] (fun v Ms=>v=agg [b6' r.1]/\Ms = [.one (ck b T [u8' r.2.gstate,.ints .u8 128 (r.2.gheld),.one (.int .i64 (r.2.ghave)),.one (.int .u64 (r.2.glength))])])):=by
 unfold Z2v at h
 refine Z04 mo ok99 rfl h0 ?_
 refine Z0<|Z2<|Zg (Zv fun b1 u1=>Z1<|Z0<|oH h fun y1 f1 h=>Z2<|Z7 rfl<|Zg (Z3l (mS:=[_]) rfl (Z34.perm .t1) (fun w hw=>Zdp  f1 (Zcq hw (mS:=[_]) (Z34.perm .t1)) ) fun v5 o1 R1=>?_))
 obtain ⟨b2,T8,rfl,rfl⟩:=R1
 refine Z7 rfl<|Z1<|Z0<|oH h fun y2 f2 h=>oH h fun y3 f3 h=>Z2<|Z7 rfl<|Z7 rfl<|Z6 _ (Z5s rfl)<|Z6 _ (Z4f rfl)<|Z6 _ (Z1y rfl .t1 rfl)<|Zg (Z06 rfl (fun w hw=>Zmh  f2 ) fun v11 o2 R2=>?_)
 obtain ⟨_,w1,rfl,rfl,O1⟩:=R2
 refine Zg (Z3l (mS:=[_]) rfl (Z34.perm (.app .here)) (fun w hw=>Z8z  f3 (Zcq hw (mS:=[_]) (Z34.perm (.app .here))) (hG.at hw hS) (hG.ap hS (.app .here) hw) ⟨(Z0f O1 .here) w hw,(Zew (E:=(El.int .u8)) O1 .here .here hw)⟩) fun v17 o3 R3=>?_)
 obtain ⟨rfl,rfl⟩:=R3
 refine Z1<|Z0<|Z2<|Zg (Zv fun b3 u2=>Z1<|Z0<|Z0<|Z2<|Z7 rfl<|Z6 _ (Z5s rfl)<|Z6 _ (Z4f rfl)<|Z6 _ (Zy (p:=[u8' y3.gstate]) rfl .t1 rfl)<|Z7 rfl<|Z1<|jH h fun k1 q1 h=>Zm (G:=fun t m=>∃ (a1:LI),k1 a1=some r/\Fit [(2,pt' b1),(4,pt' b3)] (ck b3 94 [b6' a1]::(ck b2 T8 [u8' y3.gstate,.ints .u8 128 (y3.gheld),.one (.int .i64 (y3.ghave)),.one (.int .u64 (y3.glength))]::(ck b T [u8' y1.2.gstate,.ints .u8 128 (y1.2.gheld),.one (.int .i64 (y1.2.ghave)),.one (.int .u64 (y1.2.glength))]::(ck b1 94 [b6' (replicate 64 0)] :: [])))) t m) ?_ ?_)
 ·refine Za<|Zp (fun n1 t m=>∃ (i1:Int) (a2:LI),Z2m y3 k1 n1 i1 a2=some r/\Fit [(2,pt' b1),(4,pt' b3),(19,agg [u8' y3.gstate]),(20,.int .i64 (i1))] (ck b3 94 [b6' a2]::(ck b2 T8 [u8' y3.gstate,.ints .u8 128 (y3.gheld),.one (.int .i64 (y3.ghave)),.one (.int .u64 (y3.glength))]::(ck b T [u8' y1.2.gstate,.ints .u8 128 (y1.2.gheld),.one (.int .i64 (y1.2.ghave)),.one (.int .u64 (y1.2.glength))]::(ck b1 94 [b6' (replicate 64 0)] :: [])))) t m) big ?_ ?_
  ·exact ⟨0,(replicate 64 0),h,⟨⟨rfl,rfl,rfl,rfl,trivial⟩,(.o (.o (.one (.app .here) (.one (.app .here) .nil))))⟩⟩
  ·rintro n1 t m ⟨i1,a2,h,hF⟩
   refine Zk hF ?_
   clear hF
   rcases n1 with _ | n1
   · exact Z0a h
   have h:Z7q y3 k1 (Z2m y3 k1 n1) i1 a2=some r:=h
   unfold Z7q at h
   obtain ⟨k2,q2⟩ : ∃ k,k=Z2m y3 k1 n1:=⟨_,rfl⟩
   try rw [<- q2] at h
   refine Z0<|Z2<|Z6 _ (Z9 rfl rfl rfl)<|Z1<|Z0<|Z02 h rfl (fun h=>?_) (fun h=>?_)
   ·refine Ze<|Z0<|Za<|Z0<|cH h fun c1 h=>bH h fun z1 e1 h=>Z2<|Z7 rfl<|Z6 _ (iz e1 (Zk5 (len:=8) rfl rfl (Z0j c1)))<|Z7 rfl<|Z7 rfl<|Z1<|bH h fun z2 e2 h=>cH h fun c2 h=>oH h fun y4 f4 h=>bH h fun l1 g1 h=>Zr<|Z8 _ (Z0u rfl)<|Z8 _ (iz e2 (Z9 rfl rfl rfl))<|Z8 _ (Ze8 rfl (.yes rfl) .no .no (by simp) (cut4 c2))<|Z8 _ (Z0u rfl)<|Z6o (Z06 rfl (fun w hw=>Z5k  f4 ) fun v120 o4 R4=>?_)
    obtain ⟨_,w2,rfl,rfl,O2⟩:=R4
    refine ⟨(by repeat (first | exact Sup.refl _ | apply Sup.cons | apply Sup.app)),Z1z rfl (Zol (q:=[b6' l1]) (lo:=(z2).toNat) (hi:=64) (mz:=64) (base:=0) g1 rfl rfl (Z0f O2 .here) rfl (cutn c2) rfl (.app .here) (Z00 (bH h fun z3 e3 h=>Z2 (Z6 _ (iz e3 (Z9 rfl rfl rfl)) (Z7 rfl (Z1 ?_))))))⟩
    rw [q2] at h
    exact ⟨n1,Nat.lt_succ_self _,z3,l1,h,⟨⟨rfl,rfl,rfl,rfl,trivial⟩,(.one (.app .here) (.one (.app .here) (.one (.app .here) (.one (.app .here) .nil))))⟩⟩
   ·exact Zx _ rfl<|⟨a2,h,⟨⟨rfl,rfl,trivial⟩,(.o (.o (.o (.o .nil))))⟩⟩
 ·rintro t m ⟨a1,h,hF⟩
  refine Zk hF ?_
  clear hF
  subst q1
  refine Z0<|Z2<|Z6 _ (Zy (p:=[b6' a1]) rfl .here rfl)<|Zg (Zs (q:=[b6' a1]) rfl rfl rfl rfl rfl .t3<|Z1<|Zi ?_)
  revert h; refine Zt fun h=>?_
  subst h
  exact ⟨_,_,(.cons (.agg rfl .t3 rfl) .nil),(.one .t2 .nil),⟨_,rfl,⟨rfl,rfl⟩⟩⟩
def Z5c (p0:LI):OL :=
 bnd (p0.getD 0 0) fun z1 =>
 bnd (Z4 .and .u64 z1 2251799813685247) fun z2 =>
 bnd (p0.getD 4 0) fun z3 =>
 bnd (Zq .u64 z3 51) fun z4 =>
 bnd (wrap .u64 (z4*19)) fun z5 =>
 bnd (wrap .u64 (z2+z5)) fun z6 =>
 bnd (p0.getD 1 0) fun z7 =>
 bnd (Z4 .and .u64 z7 2251799813685247) fun z8 =>
 bnd (p0.getD 0 0) fun z9 =>
 bnd (Zq .u64 z9 51) fun z10 =>
 bnd (wrap .u64 (z8+z10)) fun z11 =>
 bnd (p0.getD 2 0) fun z12 =>
 bnd (Z4 .and .u64 z12 2251799813685247) fun z13 =>
 bnd (p0.getD 1 0) fun z14 =>
 bnd (Zq .u64 z14 51) fun z15 =>
 bnd (wrap .u64 (z13+z15)) fun z16 =>
 bnd (p0.getD 3 0) fun z17 =>
 bnd (Z4 .and .u64 z17 2251799813685247) fun z18 =>
 bnd (p0.getD 2 0) fun z19 =>
 bnd (Zq .u64 z19 51) fun z20 =>
 bnd (wrap .u64 (z18+z20)) fun z21 =>
 bnd (p0.getD 4 0) fun z22 =>
 bnd (Z4 .and .u64 z22 2251799813685247) fun z23 =>
 bnd (p0.getD 3 0) fun z24 =>
 bnd (Zq .u64 z24 51) fun z25 =>
 bnd (wrap .u64 (z23+z25)) fun z26 =>
 bnd (([z6,z11,z16,z21,z26]:LI)) fun z27 =>
 some z27
theorem Z4y {W:World} {r:(LI)} {p0:LI} (h:Z5c p0=some r)  :
    Calls Tryz.prog 156 [agg [u5' p0]].toArray W (Z36 W (agg [u5' r])):=by
 unfold Z5c at h
 refine Zc mo Z0nu rfl ?_
 refine Z0<|Z2<|Zg (Z0k (s:=[u5' p0]) rfl fun b1 u1=>Zg (Zv fun b2 u2=>Z1<|Z0<|bH h fun z1 e1 h=>bH h fun z2 e2 h=>bH h fun z3 e3 h=>bH h fun z4 e4 h=>bH h fun z5 e5 h=>bH h fun z6 e6 h=>bH h fun z7 e7 h=>bH h fun z8 e8 h=>bH h fun z9 e9 h=>bH h fun z10 e10 h=>bH h fun z11 e11 h=>bH h fun z12 e12 h=>bH h fun z13 e13 h=>bH h fun z14 e14 h=>bH h fun z15 e15 h=>bH h fun z16 e16 h=>bH h fun z17 e17 h=>bH h fun z18 e18 h=>bH h fun z19 e19 h=>bH h fun z20 e20 h=>bH h fun z21 e21 h=>bH h fun z22 e22 h=>bH h fun z23 e23 h=>bH h fun z24 e24 h=>bH h fun z25 e25 h=>bH h fun z26 e26 h=>bH h fun z27 e27 h=>Z2<|Z6 _ (Z1s rfl rfl (by decide))<|Z6 _ (iz e1 (Z1y rfl .t1 rfl))<|Z6 _ (iz e2 (Z9 rfl rfl rfl))<|Z6 _ (Z1s rfl rfl (by decide))<|Z6 _ (iz e3 (Z1y rfl .t1 rfl))<|Z6 _ (iz e4 (Z5g rfl rfl (by decide)))<|Z6 _ (iz e5 (Z9 rfl rfl rfl))<|Z6 _ (iz e6 (Z9 rfl rfl rfl))<|Z6 _ (Z1s rfl rfl (by decide))<|Z6 _ (iz e7 (Z1y rfl .t1 rfl))<|Z6 _ (iz e8 (Z9 rfl rfl rfl))<|Z6 _ (Z1s rfl rfl (by decide))<|Z6 _ (iz e9 (Z1y rfl .t1 rfl))<|Z6 _ (iz e10 (Z5g rfl rfl (by decide)))<|Z6 _ (iz e11 (Z9 rfl rfl rfl))<|Z6 _ (Z1s rfl rfl (by decide))<|Z6 _ (iz e12 (Z1y rfl .t1 rfl))<|Z6 _ (iz e13 (Z9 rfl rfl rfl))<|Z6 _ (Z1s rfl rfl (by decide))<|Z6 _ (iz e14 (Z1y rfl .t1 rfl))<|Z6 _ (iz e15 (Z5g rfl rfl (by decide)))<|Z6 _ (iz e16 (Z9 rfl rfl rfl))<|Z6 _ (Z1s rfl rfl (by decide))<|Z6 _ (iz e17 (Z1y rfl .t1 rfl))<|Z6 _ (iz e18 (Z9 rfl rfl rfl))<|Z6 _ (Z1s rfl rfl (by decide))<|Z6 _ (iz e19 (Z1y rfl .t1 rfl))<|Z6 _ (iz e20 (Z5g rfl rfl (by decide)))<|Z6 _ (iz e21 (Z9 rfl rfl rfl))<|Z6 _ (Z1s rfl rfl (by decide))<|Z6 _ (iz e22 (Z1y rfl .t1 rfl))<|Z6 _ (iz e23 (Z9 rfl rfl rfl))<|Z6 _ (Z1s rfl rfl (by decide))<|Z6 _ (iz e24 (Z1y rfl .t1 rfl))<|Z6 _ (iz e25 (Z5g rfl rfl (by decide)))<|Z6 _ (iz e26 (Z9 rfl rfl rfl))<|Z6 _ (az (fun z=>agg [.ints .u64 5 z]) e27 (Zct (.one rfl rfl rfl (.one rfl rfl rfl (.one rfl rfl rfl (.one rfl rfl rfl (.one rfl rfl rfl BdR.nil)))))))<|Zg (Zs (q:=[u5' z27]) rfl rfl rfl rfl rfl .here<|Z1<|Zi ?_)))
 revert h; refine Zt fun h=>?_
 subst h
 exact ⟨_,(.cons (.agg rfl .here rfl) .nil),rfl⟩
def Zbo (y1:(LI)) (k1:Int->OL) (k2:Int->Int->OL) (i1:Int) (i2:Int):OL :=
 br ((decide (i2<4))) (
 chk (inB i2 (tk y1 1 (5-1)).length) <|
 bnd ((tk y1 1 (5-1)).getD (i2).toNat 0) fun z1 =>
 bnd (wrap .u64 (z1+i1)) fun z2 =>
 bnd (Zq .u64 z2 51) fun z3 =>
 bnd (wrap .i64 (i2+1)) fun z4 =>
 k2 z3 z4
 ) (
 k1 i1
 )
def Z5p (y1:(LI)) (k1:Int->OL):Nat->Int->Int->OL
  | 0,_,_=>none
  | n+1,i1,i2=>Zbo y1 k1 (Z5p y1 k1 n) i1 i2
def Zbp (k1:(LI)->OL) (k2:Int->(LI)->OL) (i1:Int) (a1:LI):OL :=
 br ((decide (i1<4))) (
 bnd (wrap .i64 (i1+1)) fun z1 =>
 chk (inB z1 5) <|
 chk (inB i1 5) <|
 bnd (a1.getD (z1).toNat 0) fun z2 =>
 bnd (a1.getD (i1).toNat 0) fun z3 =>
 bnd (Zq .u64 z3 51) fun z4 =>
 bnd (wrap .u64 (z2+z4)) fun z5 =>
 chk (inB z1 5) <|
 bnd (Z2u a1 (z1).toNat z5) fun l1 =>
 chk (inB i1 5) <|
 bnd (l1.getD (i1).toNat 0) fun z6 =>
 bnd (Z4 .and .u64 z6 2251799813685247) fun z7 =>
 chk (inB i1 5) <|
 bnd (Z2u l1 (i1).toNat z7) fun l2 =>
 bnd (wrap .i64 (i1+1)) fun z8 =>
 k2 z8 l2
 ) (
 k1 a1
 )
def Z5q (k1:(LI)->OL):Nat->Int->(LI)->OL
  | 0,_,_=>none
  | n+1,i1,a1=>Zbp k1 (Z5q k1 n) i1 a1
def Z1v (p0:LI):OL :=
 opt (Z5c p0) fun y1 =>
 opt (Z5c y1) fun y2 =>
 bnd (y2.getD 0 0) fun z1 =>
 bnd (wrap .u64 (z1+19)) fun z2 =>
 bnd (Zq .u64 z2 51) fun z3 =>
 jn (fun (i1:Int)=>bnd (y2.getD 0 0) fun z4 =>
 bnd (wrap .u64 (19*i1)) fun z5 =>
 bnd (wrap .u64 (z4+z5)) fun z6 =>
 bnd (Z2u y2 0 z6) fun l1 =>
 jn (fun (a1:LI)=>bnd (a1.getD 4 0) fun z7 =>
 bnd (Z4 .and .u64 z7 2251799813685247) fun z8 =>
 bnd (Z2u a1 4 z8) fun l2 =>
 some l2) fun k1=>Z5q k1 big 0 l1) fun k2=>Z5p y2 k2 big z3 0
theorem Z19 {W:World} {r:(LI)} {p0:LI} (h:Z1v p0=some r)  :
    Calls Tryz.prog 155 [agg [u5' p0]].toArray W (Z36 W (agg [u5' r])):=by
 unfold Z1v at h
 refine Zc mo Z0nt rfl ?_
 refine Z0<|Z2<|Zg (Z0k (s:=[u5' p0]) rfl fun b1 u1=>Zg (Zv fun b2 u2=>Z1<|Z0<|oH h fun y1 f1 h=>oH h fun y2 f2 h=>Z2<|Z6 _ (Zy (p:=[u5' p0]) rfl .t1 rfl)<|Z6 _ (Z0b rfl (Z4y f1))<|Z6 _ (Z0b rfl (Z4y f2))<|Zg (Zs (q:=[u5' y2]) rfl rfl rfl rfl rfl .t1<|Z1<|Z0<|bH h fun z1 e1 h=>bH h fun z2 e2 h=>bH h fun z3 e3 h=>Z2<|Z6 _ (Z1s rfl rfl (by decide))<|Z6 _ (iz e1 (Z1y rfl .t1 rfl))<|Z6 _ (iz e2 (Z9 rfl rfl rfl))<|Z6 _ (iz e3 (Z5g rfl rfl (by decide)))<|Z7 rfl<|Z1<|Z0<|Z0<|Z2<|Z6 _ (Ze8 rfl (.yes rfl) .no .no (by simp) (by decide))<|Z6 _ (Z02c rfl)<|Z7 rfl<|Z1<|jH h fun k1 q1 h=>Zm (G:=fun t m=>∃ (i1:Int),k1 i1=some r/\Fit [(1,pt' b1),(2,pt' b2),(3,.int .u64 (i1))] (ck b2 80 [u5' (replicate 5 0)]::(ck b1 80 [u5' y2] :: [])) t m) ?_ ?_)))
 ·refine Za<|Zp (fun n1 t m=>∃ (i2:Int) (i3:Int),Z5p y2 k1 n1 i2 i3=some r/\Fit [(1,pt' b1),(2,pt' b2),(3,.int .u64 (i2)),(14,(.slice (some (Z4u b1 0 1 5 1)) (5-1) (5-1))),(15,.int .i64 4),(16,.int .i64 (i3))] (ck b2 80 [u5' (replicate 5 0)]::(ck b1 80 [u5' y2] :: [])) t m) big ?_ ?_
  ·exact ⟨z3,0,h,⟨⟨rfl,rfl,rfl,rfl,rfl,rfl,trivial⟩,(.o (.o .nil))⟩⟩
  ·rintro n1 t m ⟨i2,i3,h,hF⟩
   refine Zk hF ?_
   clear hF
   rcases n1 with _ | n1
   · exact Z0a h
   have h:Zbo y2 k1 (Z5p y2 k1 n1) i2 i3=some r:=h
   unfold Zbo at h
   obtain ⟨k2,q2⟩ : ∃ k,k=Z5p y2 k1 n1:=⟨_,rfl⟩
   try rw [<- q2] at h
   refine Z0<|Z2<|Z6 _ (Z9 rfl rfl rfl)<|Z1<|Z0<|Z02 h rfl (fun h=>?_) (fun h=>?_)
   ·refine Ze<|Z0<|Za<|Z0<|cH h fun c1 h=>bH h fun z4 e4 h=>Z2<|Z6 _ (Z2t rfl rfl (Shp.blk (lo:=1) (hi:=5) (mz:=5) (by decide) (by simp [Z0x])) c1)<|Z6 _ (iz e4 (Z5e (E:=(El.int .u64)) (s:=[.one (.int .u64 ((tk y2 1 (5-1)).getD (i3).toNat 0))]) rfl (Z3q (s:=[u5' y2]) (N:=5) (k:=.u64) (base:=0) (lo:=1) (hi:=5) (mz:=5) .t1 rfl (by decide)) (Z03 c1) rfl rfl))<|Z7 rfl<|Z1<|bH h fun z5 e5 h=>bH h fun z6 e6 h=>Z2<|Z7 rfl<|Z7 rfl<|Z6 _ (iz e5 (Z9 rfl rfl rfl))<|Z6 _ (iz e6 (Z5g rfl rfl (by decide)))<|Z7 rfl<|Z1<|bH h fun z7 e7 h=>Z2<|Z6 _ (iz e7 (Z9 rfl rfl rfl))<|Z7 rfl<|Z1 ?_
    rw [q2] at h
    exact ⟨n1,Nat.lt_succ_self _,z6,z7,h,⟨⟨rfl,rfl,rfl,rfl,rfl,rfl,trivial⟩,(.o (.o .nil))⟩⟩
   ·exact Zx _ rfl<|⟨i2,h,⟨⟨rfl,rfl,rfl,trivial⟩,(.o (.o .nil))⟩⟩
 ·rintro t m ⟨i1,h,hF⟩
  refine Zk hF ?_
  clear hF
  subst q1
  refine Z0<|bH h fun z8 e8 h=>bH h fun z9 e9 h=>bH h fun z10 e10 h=>bH h fun l1 g1 h=>Z2<|Z6 _ (Z1s rfl rfl (by decide))<|Z6 _ (iz e8 (Z1y rfl .t1 rfl))<|Z7 rfl<|Z6 _ (iz e9 (Z9 rfl rfl rfl))<|Z6 _ (iz e10 (Z9 rfl rfl rfl))<|Z6 _ (Z1s rfl rfl (by decide))<|Zg (Z85 (q:=[u5' l1]) (congrArg (fun z=>([u5' z]:List Seg)) g1.symm) rfl rfl rfl rfl .t1<|Z1<|Z0<|Z0<|Z2<|Z7 rfl<|Z1<|jH h fun k3 q3 h=>Zm (G:=fun t m=>∃ (a1:LI),k3 a1=some r/\Fit [(1,pt' b1),(2,pt' b2)] (ck b2 80 [u5' (replicate 5 0)]::(ck b1 80 [u5' a1] :: [])) t m) ?_ ?_)
  ·refine Za<|Zp (fun n2 t m=>∃ (i4:Int) (a2:LI),Z5q k3 n2 i4 a2=some r/\Fit [(1,pt' b1),(2,pt' b2),(31,.int .i64 (i4))] (ck b2 80 [u5' (replicate 5 0)]::(ck b1 80 [u5' a2] :: [])) t m) big ?_ ?_
   ·exact ⟨0,l1,h,⟨⟨rfl,rfl,rfl,trivial⟩,(.o (.o .nil))⟩⟩
   ·rintro n2 t m ⟨i4,a2,h,hF⟩
    refine Zk hF ?_
    clear hF
    rcases n2 with _ | n2
    · exact Z0a h
    have h:Zbp k3 (Z5q k3 n2) i4 a2=some r:=h
    unfold Zbp at h
    obtain ⟨k4,q4⟩ : ∃ k,k=Z5q k3 n2:=⟨_,rfl⟩
    try rw [<- q4] at h
    refine Z0<|Z2<|Z6 _ (Z9 rfl rfl rfl)<|Z1<|Z0<|Z02 h rfl (fun h=>?_) (fun h=>?_)
    ·refine Ze<|Z0<|Za<|Z0<|Z2<|Z7 rfl<|Z7 rfl<|Z1<|Z0<|bH h fun z11 e11 h=>cH h fun c2 h=>cH h fun c3 h=>bH h fun z12 e12 h=>bH h fun z13 e13 h=>bH h fun z14 e14 h=>bH h fun z15 e15 h=>cH h fun c4 h=>bH h fun l2 g2 h=>Zr<|Z8 _ (Z0u rfl)<|Z8 _ (iz e11 (Z9 rfl rfl rfl))<|Z8 _ (Z1s rfl rfl (Z0j c2))<|Z8 _ (Z0u rfl)<|Z8 _ (Z1s rfl rfl (Z0j c3))<|Zn _ (iz e12 (Z3e (base:=0) rfl .t1 rfl (Z03 c2)))<|Zn _ (iz e13 (Z3e (base:=0) rfl .t1 rfl (Z03 c3)))<|Z8 _ (iz e14 (Z5g rfl rfl (by decide)))<|Z8 _ (iz e15 (Z9 rfl rfl rfl))<|Z8 _ (Z1s rfl rfl (Z0j c4))<|Z1z rfl (Z2l (q:=[u5' l2]) (base:=0) g2 rfl rfl rfl (Z03 c4) rfl .t1<|Z00<|cH h fun c5 h=>bH h fun z16 e16 h=>bH h fun z17 e17 h=>cH h fun c6 h=>bH h fun l3 g3 h=>Z2<|Z7 rfl<|Z6 _ (Z1s rfl rfl (Z0j c5))<|Z6 _ (iz e16 (Z3e (base:=0) rfl .t1 rfl (Z03 c5)))<|Z6 _ (iz e17 (Z9 rfl rfl rfl))<|Z6 _ (Z1s rfl rfl (Z0j c6))<|Zg (Z2l (q:=[u5' l3]) (base:=0) g3 rfl rfl rfl (Z03 c6) rfl .t1<|Z1<|bH h fun z18 e18 h=>Z2<|Z6 _ (iz e18 (Z9 rfl rfl rfl))<|Z7 rfl<|Z1 ?_))
     rw [q4] at h
     exact ⟨n2,Nat.lt_succ_self _,z18,l3,h,⟨⟨rfl,rfl,rfl,trivial⟩,(.o (.o .nil))⟩⟩
    ·exact Zx _ rfl<|⟨a2,h,⟨⟨rfl,rfl,trivial⟩,(.o (.o .nil))⟩⟩
  ·rintro t m ⟨a1,h,hF⟩
   refine Zk hF ?_
   clear hF
   subst q3
   refine Z0<|bH h fun z19 e19 h=>bH h fun z20 e20 h=>bH h fun l4 g4 h=>Z2<|Z6 _ (Z1s rfl rfl (by decide))<|Z6 _ (iz e19 (Z1y rfl .t1 rfl))<|Z6 _ (iz e20 (Z9 rfl rfl rfl))<|Z6 _ (Z1s rfl rfl (by decide))<|Zg (Z85 (q:=[u5' l4]) (congrArg (fun z=>([u5' z]:List Seg)) g4.symm) rfl rfl rfl rfl .t1<|Z1<|Z0<|Z2<|Z6 _ (Zy (p:=[u5' l4]) rfl .t1 rfl)<|Zg (Zs (q:=[u5' l4]) rfl rfl rfl rfl rfl .here<|Z1<|Zi ?_))
   revert h; refine Zt fun h=>?_
   subst h
   exact ⟨_,(.cons (.agg rfl .here rfl) .nil),rfl⟩
end Go.Proofs.YtiflckckekjbnaaGreatDoor
