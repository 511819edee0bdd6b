/- Texts of a proof, one behind the other: SS2 SS3 SS4 SSZ SSB SL1 SL2 SL3 SL4 SL5. -/
import Derived.Test.YtkjfpenagcdmcaaGreatDoorMS2
import Derived.Test.YtkjfpenagcdmcaaGreatDoorProg
namespace Go.Proofs.YtkjfpenagcdmcaaGreatDoor
open Go Go.Sx Go.RowKit
open List (replicate)
set_option linter.all false
set_option maxHeartbeats 400000
set_option maxRecDepth 100000
def d403:FnD:=⟨11,[.tmp 2],(.sq [jm 2 (cu 0)] (.sq [jm 3 0,jc 4 404 [3,(cu 1)],jm 5 0,jc 6 404 [5,(cu 8)],jb 7 .xor 4 6,jm 8 0,jb 9 .shr 8 (cu 7),jb 10 .xor 7 9,jm 2 10] .ret))⟩
theorem Z0y8:okF Tryz.prog 403 d403=true:=by kernel_rfl
def Z0gs:IC:=(.ops [jm 10 3,jm 11 0,jm 12 4,jb 13 .mul (ci 8) 12,jm 14 4,jb 15 .mul (ci 8) 14,jb 16 .add 15 (ci 8),oj 17 (.sls 1 11 (some 13) (some 16) none),jc 18 401 [17],oj 19 (.bs 150 1 1 [.one (.int .u64 0)] [(0,1,18)]),oj 20 (.app 150 1 8 [.one (.int .u64 0)] 10 19),jm 3 20])
def Z0jn:IC:=(.seq (.sq [jm 6 4,jb 7 .lss 6 (ci 16)] (.cond 7 .skip (.exit 0))) (.seq (.block 1 Z0gs) (.ops [jm 8 4,jb 9 .add 8 (ci 1),jm 4 9])))
def Z0gr:IC:=(.loop Z0jn)
def Z0nv:Sch:=(.P 0 (jm 25 3) (.P 1 (jm 26 3) (.P 2 (jm 27 5) (.P 3 (jb 28 .sub 27 (ci 2)) (.P 4 (ji' 29 1 26 28) (.P 7 (jm 32 3) (.P 8 (jm 33 5) (.P 9 (jb 34 .sub 33 (ci 7)) (.P 10 (ji' 35 1 32 34) (.P 13 (jm 38 3) (.P 14 (jm 39 5) (.P 15 (jb 40 .sub 39 (ci 15)) (.P 16 (ji' 41 1 38 40) (.P 20 (jm 45 3) (.P 21 (jm 46 5) (.P 22 (jb 47 .sub 46 (ci 16)) (.P 23 (ji' 48 1 45 47) (.Q 5 (jl 30 1 false 29) (.P 6 (jc 31 402 [30]) (.Q 11 (jl 36 1 false 35) (.P 12 (jb 37 .add 31 36) (.Q 17 (jl 42 1 false 41) (.P 18 (jc 43 403 [42]) (.P 19 (jb 44 .add 37 43) (.Q 24 (jl 49 1 false 48) (.P 25 (jb 50 .add 44 49) (.e 26 (oi 51 (.bs 150 1 1 [.one (.int .u64 0)] [(0,1,50)])) (.e 27 (oi 52 (.app 150 1 8 [.one (.int .u64 0)] 25 51)) (.P 28 (jm 3 52) .nil)))))))))))))))))))))))))))))
def Z0gu:IC:=(.draw Z0nv [27])
def Z0jo:IC:=(.seq (.sq [jm 21 5,jb 22 .lss 21 (ci 80)] (.cond 22 .skip (.exit 2))) (.seq (.block 3 Z0gu) (.ops [jm 23 5,jb 24 .add 23 (ci 1),jm 5 24])))
def Z0gt:IC:=(.loop Z0jo)
def d281:FnD:=⟨54,[.tmp 2],(.sq [jm 2 (.const (.slice none 0 0))] (.sq [jm 3 (.const (.slice none 0 0))] (.seq (.sq [jm 4 (ci 0)] (.block 0 Z0gr)) (.seq (.sq [jm 5 (ci 16)] (.block 2 Z0gt)) (.sq [jm 53 3,jm 2 53] .ret)))))⟩
theorem Z0vx:okF Tryz.prog 281 d281=true:=by kernel_rfl
def Z0nw:Sch:=(.P 0 (ji 42 8 1 3 (ci 7)) (.P 2 (jm 44 7) (.P 3 (jc 45 404 [44,(cu 14)]) (.P 4 (jm 46 7) (.P 5 (jc 47 404 [46,(cu 18)]) (.P 6 (jb 48 .xor 45 47) (.P 7 (jm 49 7) (.P 8 (jc 50 404 [49,(cu 41)]) (.P 9 (jb 51 .xor 48 50) (.P 11 (jm 53 9) (.P 13 (jm 55 1) (.P 15 (jm 57 2) (.Q 1 (jl 43 1 false 42) (.P 10 (jb 52 .add 43 51) (.P 12 (jb 54 .add 52 53) (.P 14 (jb 56 .add 54 55) (.P 16 (jb 58 .add 56 57) (.P 17 (jm 11 58) .nil))))))))))))))))))
def Z0nx:LJ:=[jm 69 11,jm 70 12,jb 71 .add 69 70,ji 72 8 1 3 (ci 0),jl 73 1 false 72,ji 74 8 1 3 (ci 1),jl 75 1 false 74,ji 76 8 1 3 (ci 2),jl 77 1 false 76,ji 78 8 1 3 (ci 3),jl 79 1 false 78,jm 80 11,jb 81 .add 79 80,ji 82 8 1 3 (ci 4),jl 83 1 false 82,ji 84 8 1 3 (ci 5),jl 85 1 false 84,ji 86 8 1 3 (ci 6),jl 87 1 false 86,jd 88 [.ints .u64 8 (replicate 8 0)] [(0,1,71),(1,1,73),(2,1,75),(3,1,77),(4,1,81),(5,1,83),(6,1,85),(7,1,87)],js' 8 6 88]
def d282:FnD:=⟨89,[.cell 6 8 true],(.sq [jx 3 230 0,ja 6 230 [.ints .u64 8 (replicate 8 0)]] (.sq [ji 13 8 1 3 (ci 4),jl 14 1 false 13,jm 7 14] (.sq [ji 15 8 1 3 (ci 0),jl 16 1 false 15,jm 8 16] (.sq [jm 17 7,ji 18 8 1 3 (ci 5),jl 19 1 false 18,jb 20 .and 17 19,jm 21 7,oj 22 (.un .xor 21),ji 23 8 1 3 (ci 6),jl 24 1 false 23,jb 25 .and 22 24,jb 26 .xor 20 25,jm 9 26] (.sq [jm 27 8,ji 28 8 1 3 (ci 1),jl 29 1 false 28,jb 30 .and 27 29,jm 31 8,ji 32 8 1 3 (ci 2),jl 33 1 false 32,jb 34 .and 31 33,jb 35 .xor 30 34,ji 36 8 1 3 (ci 1),jl 37 1 false 36,ji 38 8 1 3 (ci 2),jl 39 1 false 38,jb 40 .and 37 39,jb 41 .xor 35 40,jm 10 41] (.seq (.draw Z0nw []) (.sq [jm 59 8,jc 60 404 [59,(cu 28)],jm 61 8,jc 62 404 [61,(cu 34)],jb 63 .xor 60 62,jm 64 8,jc 65 404 [64,(cu 39)],jb 66 .xor 63 65,jm 67 10,jb 68 .add 66 67,jm 12 68] (.sq Z0nx .ret))))))))⟩
theorem Z0vy:okF Tryz.prog 282 d282=true:=by kernel_rfl
def Z0mn:Sch:=(.P 1 (jm 17 7) (.P 2 (ji 18 80 1 (.global 2) 17) (.P 4 (jm 20 5) (.P 5 (jm 21 7) (.P 6 (ji' 22 1 20 21) (.Q 0 (jl 16 8 true 6) (.Q 3 (jl 19 1 false 18) (.Q 7 (jl 23 1 false 22) (.P 8 (jc 24 282 [16,19,23]) (.e 9 (jo' 8 6 24) .nil))))))))))
def Z0f0:IC:=(.draw Z0mn [9])
def Z0ir:IC:=(.seq (.sq [jm 12 7,jb 13 .lss 12 (ci 80)] (.cond 13 .skip (.exit 0))) (.seq (.block 1 Z0f0) (.ops [jm 14 7,jb 15 .add 14 (ci 1),jm 7 15])))
def Z0ez:IC:=(.loop Z0ir)
def Z0c8:Sch:=(.P 0 (jm 29 8) (.P 1 (jm 30 8) (.P 2 (ji 31 8 1 6 30) (.P 4 (jm 33 8) (.P 5 (ji 34 8 1 2 33) (.Q 3 (jl 32 1 false 31) (.Q 6 (jl 35 1 false 34) (.P 7 (jb 36 .add 32 35) (.P 8 (ji 37 8 1 6 29) (.e 9 (jo' 1 37 36) .nil))))))))))
def Z0f2:IC:=(.draw Z0c8 [9])
def Z0is:IC:=(.seq (.sq [jm 25 8,jb 26 .lss 25 (ci 8)] (.cond 26 .skip (.exit 2))) (.seq (.block 3 Z0f2) (.ops [jm 27 8,jb 28 .add 27 (ci 1),jm 8 28])))
def Z0f1:IC:=(.loop Z0is)
def d174:FnD:=⟨39,[.cell 4 8 true],(.sq [jx 2 230 0,ja 4 230 [.ints .u64 8 (replicate 8 0)]] (.sq [jm 9 1,jc 10 281 [9],jm 5 10] (.sq [jl 11 8 true 2,ja 6 230 [.ints .u64 8 (replicate 8 0)],js' 8 6 11] (.seq (.sq [jm 7 (ci 0)] (.block 0 Z0ez)) (.seq (.sq [jm 8 (ci 0)] (.block 2 Z0f1)) (.sq [jl 38 8 true 6,js' 8 4 38] .ret))))))⟩
theorem Z0tx:okF Tryz.prog 174 d174=true:=by kernel_rfl
def Z10e:Sch:=(.P 1 (jm 27 3) (.P 2 (jm 28 5) (.P 3 (jm 29 5) (.P 4 (jb 30 .add 29 (ci 128)) (.P 5 (oj 31 (.sls 1 27 (some 28) (some 30) none)) (.Q 0 (jl 26 8 true 4) (.Q 6 (jc 32 174 [26,31]) (.e 7 (jo' 8 4 32) .nil))))))))
def Z0r2:IC:=(.draw Z10e [7])
def Z0r9:IC:=(.seq (.sq [jm 20 5,jm 21 3,jn' 22 21,jb 23 .lss 20 22] (.cond 23 .skip (.exit 0))) (.seq (.block 1 Z0r2) (.ops [jm 24 5,jb 25 .add 24 (ci 128),jm 5 25])))
def Z0r1:IC:=(.loop Z0r9)
def Z0r6:IC:=(.ops [jm 45 7,jb 46 .mul (ci 8) 45,jm 47 9,jb 48 .add 46 47,jm 49 8,jm 50 9,ji' 51 1 49 50,jl 52 1 false 51,ji 53 64 1 6 48,js' 1 53 52])
def Z0rb:IC:=(.seq (.sq [jm 41 9,jb 42 .lss 41 (ci 8)] (.cond 42 .skip (.exit 4))) (.seq (.block 5 Z0r6) (.ops [jm 43 9,jb 44 .add 43 (ci 1),jm 9 44])))
def Z0r5:IC:=(.loop Z0rb)
def Z0r4:IC:=(.sq [jm 37 7,ji 38 8 1 4 37,jl 39 1 false 38,jc 40 175 [39],jm 8 40] (.sq [jm 9 (ci 0)] (.block 4 Z0r5)))
def Z0ra:IC:=(.seq (.sq [jm 33 7,jb 34 .lss 33 (ci 8)] (.cond 34 .skip (.exit 2))) (.seq (.block 3 Z0r4) (.ops [jm 35 7,jb 36 .add 35 (ci 1),jm 7 36])))
def Z0r3:IC:=(.loop Z0ra)
def d96:FnD:=⟨55,[.cell 2 64 true],(.sq [ja 2 148 [.ints .u8 64 (replicate 64 0)]] (.sq [jm 3 (.const (.slice none 0 0))] (.sq [jm 10 3,jm 11 0,oj 12 (.app 5 1 1 [.one (.int .u8 0)] 10 11),jm 3 12] (.sq [jm 13 3,jm 14 0,jn' 15 14,jv 16 .u64 15,jc 17 173 [16],oj 18 (.app 5 1 1 [.one (.int .u8 0)] 13 17),jm 3 18] (.sq [jl 19 8 true (.global 0),ja 4 230 [.ints .u64 8 (replicate 8 0)],js' 8 4 19] (.seq (.sq [jm 5 (ci 0)] (.block 0 Z0r1)) (.sq [ja 6 148 [.ints .u8 64 (replicate 64 0)]] (.seq (.sq [jm 7 (ci 0)] (.block 2 Z0r3)) (.sq [jl 54 64 true 6,js' 64 2 54] .ret)))))))))⟩
theorem ok96:okF Tryz.prog 96 d96=true:=by kernel_rfl
def d97:FnD:=⟨18,[.tmp 6],(.sq [jm 6 (.const (.slice none 0 0))] (.sq [jm 7 (.const (.slice none 0 0))] (.sq [jm 8 7,jm 9 0,oj 10 (.app 5 1 1 [.one (.int .u8 0)] 8 9),jm 7 10] (.sq [jm 11 7,jm 12 1,oj 13 (.app 5 1 1 [.one (.int .u8 0)] 11 12),jm 7 13] (.sq [jm 14 7,jm 15 2,oj 16 (.app 5 1 1 [.one (.int .u8 0)] 14 15),jm 7 16] (.sq [jm 17 7,jm 6 17] .ret))))))⟩
theorem ok97:okF Tryz.prog 97 d97=true:=by kernel_rfl
def Z0nt:Sch:=(.P 0 (jm 12 6) (.P 1 (ji 13 10 1 2 12) (.P 5 (jm 17 6) (.P 6 (ji 18 10 1 3 17) (.P 9 (jm 21 5) (.Q 2 (jl 14 1 false 13) (.P 3 (jb 15 .add 14 (cu 67108863)) (.P 4 (jb 16 .add 15 (cu 1)) (.Q 7 (jl 19 1 false 18) (.P 8 (jb 20 .sub 16 19) (.P 10 (jb 22 .sub 20 21) (.P 11 (jm 7 22) .nil))))))))))))
def Z0gm:IC:=(.seq (.draw Z0nt []) (.sq [jm 23 7,jb 24 .shr 23 (cu 26),jb 25 .sub (cu 1) 24,jm 5 25] (.ops [jm 26 6,jm 27 7,jb 28 .and 27 (cu 67108863),ji 29 10 1 2 26,js' 1 29 28])))
def Z0jk:IC:=(.seq (.sq [jm 8 6,jb 9 .lss 8 (ci 10)] (.cond 9 .skip (.exit 0))) (.seq (.block 1 Z0gm) (.ops [jm 10 6,jb 11 .add 10 (ci 1),jm 6 11])))
def Z0gl:IC:=(.loop Z0jk)
def d275:FnD:=⟨31,[.cell 4 10 true],(.sq [jx 2 152 0,jx 3 152 1,ja 4 152 [Z10]] (.sq [jm 5 (cu 0)] (.seq (.sq [jm 6 (ci 0)] (.block 0 Z0gl)) (.sq [jl 30 10 true 2,js' 10 4 30] .ret))))⟩
theorem Z0vr:okF Tryz.prog 275 d275=true:=by kernel_rfl
def d276:FnD:=⟨2,[.cell 0 10 true],(.sq [ja 0 152 [Z10]] (.sq [jd 1 [Z10] [(0,1,(cu 67108845)),(1,1,(cu 67108863)),(2,1,(cu 67108863)),(3,1,(cu 67108863)),(4,1,(cu 67108863)),(5,1,(cu 67108863)),(6,1,(cu 67108863)),(7,1,(cu 67108863)),(8,1,(cu 67108863)),(9,1,(cu 2097151))],js' 10 0 1] .ret))⟩
theorem Z0vs:okF Tryz.prog 276 d276=true:=by kernel_rfl
def Z0od:Sch:=(.P 0 (jm 8 3) (.P 1 (jb 9 .add 8 (ci 1)) (.P 2 (jm 10 3) (.P 3 (jb 11 .add 10 (ci 1)) (.P 4 (ji 12 10 1 1 11) (.P 6 (jm 14 3) (.P 7 (ji 15 10 1 1 14) (.Q 5 (jl 13 1 false 12) (.Q 8 (jl 16 1 false 15) (.P 9 (jb 17 .shr 16 (cu 26)) (.P 10 (jb 18 .add 13 17) (.P 11 (ji 19 10 1 1 9) (.e 12 (jo' 1 19 18) .nil)))))))))))))
def Z0hs:IC:=(.seq (.draw Z0od [12]) (.ops [jm 20 3,jm 21 3,ji 22 10 1 1 21,jl 23 1 false 22,jb 24 .and 23 (cu 67108863),ji 25 10 1 1 20,js' 1 25 24]))
def Z0k5:IC:=(.seq (.sq [jm 4 3,jb 5 .lss 4 (ci 9)] (.cond 5 .skip (.exit 0))) (.seq (.block 1 Z0hs) (.ops [jm 6 3,jb 7 .add 6 (ci 1),jm 3 7])))
def Z0hr:IC:=(.loop Z0k5)
def d398:FnD:=⟨27,[.cell 2 10 true],(.sq [jx 1 152 0,ja 2 152 [Z10]] (.seq (.sq [jm 3 (ci 0)] (.block 0 Z0hr)) (.sq [jl 26 10 true 1,js' 10 2 26] .ret)))⟩
theorem Z0y3:okF Tryz.prog 398 d398=true:=by kernel_rfl
def Z0oe:Sch:=(.P 0 (jm 10 5) (.P 1 (ji 11 10 1 2 10) (.P 3 (jm 13 5) (.P 4 (ji 14 10 1 3 13) (.Q 2 (jl 12 1 false 11) (.Q 5 (jl 15 1 false 14) (.P 6 (jb 16 .neq 12 15) .nil)))))))
def Z0of:Sch:=(.P 0 (jm 17 5) (.P 1 (ji 18 10 1 2 17) (.P 3 (jm 20 5) (.P 4 (ji 21 10 1 3 20) (.Q 2 (jl 19 1 false 18) (.Q 5 (jl 22 1 false 21) (.P 6 (jb 23 .lss 19 22) (.P 7 (jm 4 23) .nil))))))))
def Z0hu:IC:=(.seq (.draw Z0oe []) (.cond 16 (.seq (.draw Z0of []) .ret) .skip))
def Z0k6:IC:=(.seq (.sq [jm 6 5,jb 7 .geq 6 (ci 0)] (.cond 7 .skip (.exit 0))) (.seq (.block 1 Z0hu) (.ops [jm 8 5,jb 9 .sub 8 (ci 1),jm 5 9])))
def Z0ht:IC:=(.loop Z0k6)
def d399:FnD:=⟨24,[.tmp 4],(.sq [jx 2 152 0,jx 3 152 1,jm 4 (.const (.bool false))] (.seq (.sq [jm 5 (ci 9)] (.block 0 Z0ht)) (.sq [jm 4 (.const (.bool false))] .ret)))⟩
theorem Z0y4:okF Tryz.prog 399 d399=true:=by kernel_rfl
def Z0gi:IC:=(.sq [ji 9 10 1 1 (ci 0),jl 10 1 false 9,ji 11 10 1 1 (ci 9),jl 12 1 false 11,jb 13 .shr 12 (cu 21),jb 14 .mul (cu 19) 13,jb 15 .add 10 14,ji 16 10 1 1 (ci 0),js' 1 16 15] (.sq [ji 17 10 1 1 (ci 9),jl 18 1 false 17,jb 19 .and 18 (cu 2097151),ji 20 10 1 1 (ci 9),js' 1 20 19] (.ops [jl 21 10 true 1,jc 22 398 [21],js' 10 1 22])))
def Z0ji:IC:=(.seq (.sq [ji 6 10 1 1 (ci 9),jl 7 1 false 6,jb 8 .gtr 7 (cu 2097151)] (.cond 8 .skip (.exit 0))) (.block 1 Z0gi))
def Z0gh:IC:=(.loop Z0ji)
def d269:FnD:=⟨32,[.cell 2 10 true],(.sq [jx 1 152 0,ja 2 152 [Z10]] (.sq [jl 4 10 true 1,jc 5 398 [4],js' 10 1 5] (.seq (.block 0 Z0gh) (.sq [jc 23 276 [],ja 3 152 [Z10],js' 10 3 23] (.seq (.sq [jl 24 10 true 1,jl 25 10 true 3,jc 26 399 [24,25],oj 27 (.un .not 26)] (.cond 27 (.ops [jl 28 10 true 1,jl 29 10 true 3,jc 30 275 [28,29],js' 10 1 30]) .skip)) (.sq [jl 31 10 true 1,js' 10 2 31] .ret))))))⟩
theorem Z0vl:okF Tryz.prog 269 d269=true:=by kernel_rfl
def Z0mv:Sch:=(.P 0 (jm 19 6) (.P 1 (jm 20 7) (.P 2 (jb 21 .add 19 20) (.P 3 (jm 22 6) (.P 4 (jm 23 7) (.P 5 (jb 24 .add 22 23) (.P 6 (ji 25 20 1 5 24) (.P 8 (jm 27 6) (.P 9 (ji 28 10 1 2 27) (.P 11 (jm 30 7) (.P 12 (ji 31 10 1 3 30) (.Q 7 (jl 26 1 false 25) (.Q 10 (jl 29 1 false 28) (.Q 13 (jl 32 1 false 31) (.P 14 (jb 33 .mul 29 32) (.P 15 (jb 34 .add 26 33) (.P 16 (ji 35 20 1 5 21) (.e 17 (jo' 1 35 34) .nil))))))))))))))))))
def Z0fc:IC:=(.draw Z0mv [17])
def Z0ix:IC:=(.seq (.sq [jm 15 7,jb 16 .lss 15 (ci 10)] (.cond 16 .skip (.exit 2))) (.seq (.block 3 Z0fc) (.ops [jm 17 7,jb 18 .add 17 (ci 1),jm 7 18])))
def Z0fb:IC:=(.loop Z0ix)
def Z0fa:IC:=(.sq [jm 7 (ci 0)] (.block 2 Z0fb))
def Z0iw:IC:=(.seq (.sq [jm 11 6,jb 12 .lss 11 (ci 10)] (.cond 12 .skip (.exit 0))) (.seq (.block 1 Z0fa) (.ops [jm 13 6,jb 14 .add 13 (ci 1),jm 6 14])))
def Z0f9:IC:=(.loop Z0iw)
def Z0cb:Sch:=(.P 0 (jm 40 8) (.P 1 (jb 41 .add 40 (ci 1)) (.P 2 (jm 42 8) (.P 3 (jb 43 .add 42 (ci 1)) (.P 4 (ji 44 20 1 5 43) (.P 6 (jm 46 8) (.P 7 (ji 47 20 1 5 46) (.Q 5 (jl 45 1 false 44) (.Q 8 (jl 48 1 false 47) (.P 9 (jb 49 .shr 48 (cu 26)) (.P 10 (jb 50 .add 45 49) (.P 11 (ji 51 20 1 5 41) (.e 12 (jo' 1 51 50) .nil)))))))))))))
def Z0fe:IC:=(.seq (.draw Z0cb [12]) (.ops [jm 52 8,jm 53 8,ji 54 20 1 5 53,jl 55 1 false 54,jb 56 .and 55 (cu 67108863),ji 57 20 1 5 52,js' 1 57 56]))
def Z0iy:IC:=(.seq (.sq [jm 36 8,jb 37 .lss 36 (ci 19)] (.cond 37 .skip (.exit 4))) (.seq (.block 5 Z0fe) (.ops [jm 38 8,jb 39 .add 38 (ci 1),jm 8 39])))
def Z0fd:IC:=(.loop Z0iy)
def Z0cc:Sch:=(.P 0 (jm 62 10) (.P 1 (jm 63 10) (.P 2 (ji 64 20 1 5 63) (.P 4 (jm 66 10) (.P 5 (jb 67 .add 66 (ci 10)) (.P 6 (ji 68 20 1 5 67) (.Q 3 (jl 65 1 false 64) (.Q 7 (jl 69 1 false 68) (.P 8 (jb 70 .mul (cu 608) 69) (.P 9 (jb 71 .add 65 70) (.P 10 (ji 72 10 1 9 62) (.e 11 (jo' 1 72 71) .nil))))))))))))
def Z0fg:IC:=(.draw Z0cc [11])
def Z0iz:IC:=(.seq (.sq [jm 58 10,jb 59 .lss 58 (ci 10)] (.cond 59 .skip (.exit 6))) (.seq (.block 7 Z0fg) (.ops [jm 60 10,jb 61 .add 60 (ci 1),jm 10 61])))
def Z0ff:IC:=(.loop Z0iz)
def d180:FnD:=⟨75,[.cell 4 10 true],(.sq [jx 2 152 0,jx 3 152 1,ja 4 152 [Z10]] (.sq [ja 5 348 [.ints .u64 20 (replicate 20 0)]] (.seq (.sq [jm 6 (ci 0)] (.block 0 Z0f9)) (.seq (.sq [jm 8 (ci 0)] (.block 4 Z0fd)) (.sq [ja 9 152 [Z10]] (.seq (.sq [jm 10 (ci 0)] (.block 6 Z0ff)) (.sq [jl 73 10 true 9,jc 74 269 [73],js' 10 4 74] .ret)))))))⟩
theorem Z0u3:okF Tryz.prog 180 d180=true:=by kernel_rfl
def d271:FnD:=⟨11,[.cell 2 10 true],(.sq [ja 2 152 [Z10]] (.sq [jm 3 0,jb 4 .and 3 (cu 67108863),jm 5 0,jb 6 .shr 5 (cu 26),jb 7 .and 6 (cu 67108863),jm 8 0,jb 9 .shr 8 (cu 52),jd 10 [Z10] [(0,1,4),(1,1,7),(2,1,9)],js' 10 2 10] .ret))⟩
theorem Z0vn:okF Tryz.prog 271 d271=true:=by kernel_rfl
def Z0gy:IC:=(.sq [jl 12 10 true 5,jl 13 10 true 5,jc 14 180 [12,13],js' 10 5 14] (.sq [jm 15 6,jb 16 .quo 15 (ci 8),ji 17 32 1 3 16,jl 18 1 false 17,jm 19 6,jb 20 .rem 19 (ci 8),jb 21 .shr 18 20,jb 22 .and 21 (c8 1),jb 23 .eql 22 (c8 1)] (.cond 23 (.ops [jl 24 10 true 5,jl 25 10 true 2,jc 26 180 [24,25],js' 10 5 26]) .skip)))
def Z0jq:IC:=(.seq (.sq [jm 8 6,jb 9 .geq 8 (ci 0)] (.cond 9 .skip (.exit 0))) (.seq (.block 1 Z0gy) (.ops [jm 10 6,jb 11 .sub 10 (ci 1),jm 6 11])))
def Z0gx:IC:=(.loop Z0jq)
def d286:FnD:=⟨28,[.cell 4 10 true],(.sq [jx 2 152 0,jx 3 22 1,ja 4 152 [Z10]] (.sq [jc 7 271 [(cu 1)],ja 5 152 [Z10],js' 10 5 7] (.seq (.sq [jm 6 (ci 255)] (.block 0 Z0gx)) (.sq [jl 27 10 true 5,js' 10 4 27] .ret))))⟩
theorem Z0w2:okF Tryz.prog 286 d286=true:=by kernel_rfl
def Z0h0:IC:=(.ops [jm 11 6,ji 12 32 1 5 11,js' 1 12 (c8 255)])
def Z0jr:IC:=(.seq (.sq [jm 7 6,jb 8 .lss 7 (ci 32)] (.cond 8 .skip (.exit 0))) (.seq (.block 1 Z0h0) (.ops [jm 9 6,jb 10 .add 9 (ci 1),jm 6 10])))
def Z0gz:IC:=(.loop Z0jr)
def d287:FnD:=⟨18,[.cell 4 32 true],(.sq [ja 4 22 [.ints .u8 32 (replicate 32 0)]] (.sq [ja 5 22 [.ints .u8 32 (replicate 32 0)]] (.seq (.sq [jm 6 (ci 0)] (.block 0 Z0gz)) (.sq [jm 13 0,ji 14 32 1 5 (ci 0),js' 1 14 13] (.sq [jm 15 1,ji 16 32 1 5 (ci 31),js' 1 16 15] (.sq [jl 17 32 true 5,js' 32 4 17] .ret))))))⟩
theorem Z0w3:okF Tryz.prog 287 d287=true:=by kernel_rfl
def Z0mt:Sch:=(.P 1 (jc 4 287 [(c8 235),(c8 127)]) (.Q 0 (jl 3 10 true 1) (.P 2 (jc 5 286 [3,4]) (.e 3 (jo' 10 2 5) .nil))))
def d178:FnD:=⟨6,[.cell 2 10 true],(.sq [jx 1 152 0,ja 2 152 [Z10]] (.seq (.draw Z0mt [3]) .ret))⟩
theorem Z0u1:okF Tryz.prog 178 d178=true:=by kernel_rfl
def Z0mu:Sch:=(.P 0 (jm 19 4) (.P 1 (jb 20 .quo 19 (ci 8)) (.P 2 (jm 21 4) (.P 3 (jb 22 .quo 21 (ci 8)) (.P 4 (ji 23 32 1 3 22) (.P 6 (jm 25 5) (.P 7 (jm 26 4) (.P 8 (jb 27 .rem 26 (ci 8)) (.P 9 (jb 28 .shl 25 27) (.Q 5 (jl 24 1 false 23) (.P 10 (jb 29 .add 24 28) (.P 11 (ji 30 32 1 3 20) (.e 12 (jo' 1 30 29) .nil)))))))))))))
def Z0f8:IC:=(.sq [jm 10 4,jb 11 .quo 10 (ci 26),ji 12 10 1 1 11,jl 13 1 false 12,jm 14 4,jb 15 .rem 14 (ci 26),jb 16 .shr 13 15,jb 17 .and 16 (cu 1),jv 18 .u8 17,jm 5 18] (.draw Z0mu [12]))
def Z0iv:IC:=(.seq (.sq [jm 6 4,jb 7 .lss 6 (ci 255)] (.cond 7 .skip (.exit 0))) (.seq (.block 1 Z0f8) (.ops [jm 8 4,jb 9 .add 8 (ci 1),jm 4 9])))
def Z0f7:IC:=(.loop Z0iv)
def d179:FnD:=⟨32,[.cell 2 32 true],(.sq [jx 1 152 0,ja 2 22 [.ints .u8 32 (replicate 32 0)]] (.sq [ja 3 22 [.ints .u8 32 (replicate 32 0)]] (.seq (.sq [jm 4 (ci 0)] (.block 0 Z0f7)) (.sq [jl 31 32 true 3,js' 32 2 31] .ret))))⟩
theorem Z0u2:okF Tryz.prog 179 d179=true:=by kernel_rfl
def d181:FnD:=⟨7,[.tmp 2],(.sq [jx 1 152 0,jm 2 (.const (.bool false))] (.sq [ji 3 10 1 1 (ci 0),jl 4 1 false 3,jb 5 .and 4 (cu 1),jb 6 .eql 5 (cu 1),jm 2 6] .ret))⟩
theorem Z0u4:okF Tryz.prog 181 d181=true:=by kernel_rfl
def d100:FnD:=⟨23,[.cell 2 32 true],(.sq [jx 1 154 0,ja 2 44 [.ints .u8 32 (replicate 32 0)]] (.sq [jf 5 20 1,jl 6 10 true 5,jc 7 178 [6],ja 3 152 [Z10],js' 10 3 7] (.sq [jf 8 10 1,jl 9 10 true 8,jl 10 10 true 3,jc 11 180 [9,10],jc 12 179 [11],ja 4 22 [.ints .u8 32 (replicate 32 0)],js' 32 4 12] (.seq (.sq [jf 13 0 1,jl 14 10 true 13,jl 15 10 true 3,jc 16 180 [14,15],jc 17 181 [16]] (.cond 17 (.ops [ji 18 32 1 4 (ci 31),jl 19 1 false 18,jb 20 .add 19 (c8 128),ji 21 32 1 4 (ci 31),js' 1 21 20]) .skip)) (.sq [jl 22 32 true 4,js' 32 2 22] .ret)))))⟩
theorem Z0sm:okF Tryz.prog 100 d100=true:=by kernel_rfl
def Z0fi:IC:=(.ops [jm 9 4,jm 10 4,ji 11 32 1 1 10,jl 12 1 false 11,ji 13 32 1 3 9,js' 1 13 12])
def Z0j0:IC:=(.seq (.sq [jm 5 4,jb 6 .lss 5 (ci 32)] (.cond 6 .skip (.exit 0))) (.seq (.block 1 Z0fi) (.ops [jm 7 4,jb 8 .add 7 (ci 1),jm 4 8])))
def Z0fh:IC:=(.loop Z0j0)
def d209:FnD:=⟨27,[.cell 2 32 true],(.sq [jx 1 22 0,ja 2 149 [.ints .u8 32 (replicate 32 0)]] (.sq [ja 3 149 [.ints .u8 32 (replicate 32 0)]] (.seq (.sq [jm 4 (ci 0)] (.block 0 Z0fh)) (.sq [ji 14 32 1 3 (ci 0),jl 15 1 false 14,ji 16 32 1 3 (ci 0),jl 17 1 false 16,jb 18 .rem 17 (c8 8),jb 19 .sub 15 18,ji 20 32 1 3 (ci 0),js' 1 20 19] (.sq [ji 21 32 1 3 (ci 31),jl 22 1 false 21,jb 23 .rem 22 (c8 64),jb 24 .add 23 (c8 64),ji 25 32 1 3 (ci 31),js' 1 25 24] (.sq [jl 26 32 true 3,js' 32 2 26] .ret))))))⟩
theorem Z0ub:okF Tryz.prog 209 d209=true:=by kernel_rfl
def d114:FnD:=⟨9,[.cell 2 32 true],(.sq [jx 1 23 0,ja 2 149 [.ints .u8 32 (replicate 32 0)]] (.sq [oj 4 (.sla 32 1 1 none none none),jc 5 96 [4],ja 3 148 [.ints .u8 64 (replicate 64 0)],js' 64 3 5] (.sq [jl 6 64 true 3,jc 7 92 [6,(.const (.bool false))],jc 8 209 [7],js' 32 2 8] .ret)))⟩
theorem Z0sr:okF Tryz.prog 114 d114=true:=by kernel_rfl
def Z0mk:Sch:=(.P 0 (jc 3 276 []) (.Q 1 (jl 4 10 true 1) (.P 2 (jc 5 275 [3,4]) (.P 3 (jc 6 269 [5]) (.e 4 (jo' 10 2 6) .nil)))))
def d166:FnD:=⟨7,[.cell 2 10 true],(.sq [jx 1 152 0,ja 2 152 [Z10]] (.seq (.draw Z0mk [4]) .ret))⟩
theorem Z0tp:okF Tryz.prog 166 d166=true:=by kernel_rfl
def Z0nm:Sch:=(.P 0 (jm 10 5) (.P 1 (jm 11 5) (.P 2 (ji 12 10 1 2 11) (.P 4 (jm 14 5) (.P 5 (ji 15 10 1 3 14) (.Q 3 (jl 13 1 false 12) (.Q 6 (jl 16 1 false 15) (.P 7 (jb 17 .add 13 16) (.P 8 (ji 18 10 1 2 10) (.e 9 (jo' 1 18 17) .nil))))))))))
def Z0gk:IC:=(.draw Z0nm [9])
def Z0jj:IC:=(.seq (.sq [jm 6 5,jb 7 .lss 6 (ci 10)] (.cond 7 .skip (.exit 0))) (.seq (.block 1 Z0gk) (.ops [jm 8 5,jb 9 .add 8 (ci 1),jm 5 9])))
def Z0gj:IC:=(.loop Z0jj)
def d272:FnD:=⟨21,[.cell 4 10 true],(.sq [jx 2 152 0,jx 3 152 1,ja 4 152 [Z10]] (.seq (.sq [jm 5 (ci 0)] (.block 0 Z0gj)) (.sq [jl 19 10 true 2,jc 20 269 [19],js' 10 4 20] .ret)))⟩
theorem Z0vo:okF Tryz.prog 272 d272=true:=by kernel_rfl
def Z0nl:Sch:=(.Q 0 (jl 5 10 true 2) (.Q 1 (jl 6 10 true 3) (.P 2 (jc 7 166 [6]) (.P 3 (jc 8 272 [5,7]) (.e 4 (jo' 10 4 8) .nil)))))
def d270:FnD:=⟨9,[.cell 4 10 true],(.sq [jx 2 152 0,jx 3 152 1,ja 4 152 [Z10]] (.seq (.draw Z0nl [4]) .ret))⟩
theorem Z0vm:okF Tryz.prog 270 d270=true:=by kernel_rfl
def Z0mh:Sch:=(.P 0 (jm 19 4) (.P 1 (jb 20 .quo 19 (ci 26)) (.P 2 (jm 21 4) (.P 3 (jb 22 .quo 21 (ci 26)) (.P 4 (ji 23 10 1 3 22) (.P 6 (jm 25 5) (.P 7 (jm 26 4) (.P 8 (jb 27 .rem 26 (ci 26)) (.P 9 (jb 28 .shl 25 27) (.Q 5 (jl 24 1 false 23) (.P 10 (jb 29 .add 24 28) (.P 11 (ji 30 10 1 3 20) (.e 12 (jo' 1 30 29) .nil)))))))))))))
def Z0em:IC:=(.sq [jm 10 4,jb 11 .quo 10 (ci 8),ji 12 32 1 1 11,jl 13 1 false 12,jm 14 4,jb 15 .rem 14 (ci 8),jb 16 .shr 13 15,jb 17 .and 16 (c8 1),jv 18 .u64 17,jm 5 18] (.draw Z0mh [12]))
def Z0ik:IC:=(.seq (.sq [jm 6 4,jb 7 .lss 6 (ci 255)] (.cond 7 .skip (.exit 0))) (.seq (.block 1 Z0em) (.ops [jm 8 4,jb 9 .add 8 (ci 1),jm 4 9])))
def Z0el:IC:=(.loop Z0ik)
def d163:FnD:=⟨33,[.cell 2 10 true],(.sq [jx 1 22 0,ja 2 152 [Z10]] (.sq [ja 3 152 [Z10]] (.seq (.sq [jm 4 (ci 0)] (.block 0 Z0el)) (.sq [jl 31 10 true 3,jc 32 269 [31],js' 10 2 32] .ret))))⟩
theorem Z0tm:okF Tryz.prog 163 d163=true:=by kernel_rfl
def Z0nn:LJ:=[jd 1 [.ints .u8 32 (replicate 32 0)] [(0,1,(c8 163)),(1,1,(c8 120)),(2,1,(c8 89)),(3,1,(c8 19)),(4,1,(c8 202)),(5,1,(c8 77)),(6,1,(c8 235)),(7,1,(c8 117)),(8,1,(c8 171)),(9,1,(c8 216)),(10,1,(c8 65)),(11,1,(c8 65)),(12,1,(c8 77)),(13,1,(c8 10)),(14,1,(c8 112)),(15,1,(c8 0)),(16,1,(c8 152)),(17,1,(c8 232)),(18,1,(c8 121)),(19,1,(c8 119)),(20,1,(c8 121)),(21,1,(c8 64)),(22,1,(c8 199)),(23,1,(c8 140)),(24,1,(c8 115)),(25,1,(c8 254)),(26,1,(c8 111)),(27,1,(c8 43)),(28,1,(c8 238)),(29,1,(c8 108)),(30,1,(c8 3)),(31,1,(c8 82))],jc 2 163 [1],js' 10 0 2]
def d273:FnD:=⟨3,[.cell 0 10 true],(.sq [ja 0 152 [Z10]] (.sq Z0nn .ret))⟩
theorem Z0vp:okF Tryz.prog 273 d273=true:=by kernel_rfl
def Z0mo:Sch:=(.P 0 (jc 33 273 []) (.Q 1 (jl 34 10 true 7) (.Q 2 (jl 35 10 true 8) (.P 3 (jc 36 180 [34,35]) (.P 4 (jc 37 180 [33,36]) (.e 5 (oi 9 (.al 152 [Z10])) (.e 6 (jo' 10 9 37) .nil)))))))
def Z0mp:Sch:=(.P 0 (jf 44 0 2) (.P 2 (jf 46 10 3) (.P 5 (jf 49 10 2) (.P 7 (jf 51 0 3) (.Q 1 (jl 45 10 true 44) (.Q 3 (jl 47 10 true 46) (.P 4 (jc 48 180 [45,47]) (.Q 6 (jl 50 10 true 49) (.Q 8 (jl 52 10 true 51) (.P 9 (jc 53 180 [50,52]) (.P 10 (jc 54 272 [48,53]) (.e 11 (oi 12 (.al 152 [Z10])) (.e 12 (jo' 10 12 54) .nil)))))))))))))
def Z0mq:Sch:=(.Q 0 (jl 55 10 true 5) (.Q 1 (jl 56 10 true 10) (.P 2 (jc 57 180 [55,56]) (.Q 3 (jl 58 10 true 12) (.P 4 (jc 59 180 [57,58]) (.e 5 (oi 13 (.al 152 [Z10])) (.e 6 (jo' 10 13 59) .nil)))))))
def Z0c9:Sch:=(.Q 0 (jl 60 10 true 5) (.Q 1 (jl 61 10 true 11) (.P 2 (jc 62 180 [60,61]) (.Q 3 (jl 63 10 true 8) (.Q 4 (jl 64 10 true 7) (.P 5 (jc 65 272 [63,64]) (.P 6 (jc 66 180 [62,65]) (.e 7 (oi 14 (.al 152 [Z10])) (.e 8 (jo' 10 14 66) .nil)))))))))
def Z0ca:Sch:=(.Q 0 (jl 67 10 true 13) (.Q 1 (jl 68 10 true 14) (.Q 2 (jl 69 10 true 10) (.Q 3 (jl 70 10 true 11) (.P 4 (jc 71 180 [69,70]) (.P 5 (jd 72 [Z10,Z10,Z10] [(0,10,67),(10,10,68),(20,10,71)]) (.e 6 (jo' 30 4 72) .nil)))))))
def d176:FnD:=⟨73,[.cell 4 30 true],(.sq [jx 2 154 0,jx 3 154 1,ja 4 154 [Z10,Z10,Z10]] (.sq [jf 15 20 2,jl 16 10 true 15,jf 17 20 3,jl 18 10 true 17,jc 19 180 [16,18],ja 5 152 [Z10],js' 10 5 19] (.sq [jl 20 10 true 5,jl 21 10 true 5,jc 22 180 [20,21],ja 6 152 [Z10],js' 10 6 22] (.sq [jf 23 0 2,jl 24 10 true 23,jf 25 0 3,jl 26 10 true 25,jc 27 180 [24,26],ja 7 152 [Z10],js' 10 7 27] (.sq [jf 28 10 2,jl 29 10 true 28,jf 30 10 3,jl 31 10 true 30,jc 32 180 [29,31],ja 8 152 [Z10],js' 10 8 32] (.seq (.draw Z0mo [6]) (.sq [jl 38 10 true 6,jl 39 10 true 9,jc 40 270 [38,39],ja 10 152 [Z10],js' 10 10 40] (.sq [jl 41 10 true 6,jl 42 10 true 9,jc 43 272 [41,42],ja 11 152 [Z10],js' 10 11 43] (.seq (.draw Z0mp [12]) (.seq (.draw Z0mq [6]) (.seq (.draw Z0c9 [8]) (.seq (.draw Z0ca [6]) .ret))))))))))))⟩
theorem Z0tz:okF Tryz.prog 176 d176=true:=by kernel_rfl
def d284:FnD:=⟨5,[.cell 0 30 true],(.sq [ja 0 154 [Z10,Z10,Z10]] (.sq [jc 1 271 [(cu 0)],jc 2 271 [(cu 1)],jc 3 271 [(cu 1)],jd 4 [Z10,Z10,Z10] [(0,10,1),(10,10,2),(20,10,3)],js' 30 0 4] .ret))⟩
theorem Z0w0:okF Tryz.prog 284 d284=true:=by kernel_rfl
def Z0ny:Sch:=(.P 0 (jm 11 4) (.P 1 (jm 12 4) (.P 2 (jb 13 .sub 12 (ci 1)) (.P 3 (ji 14 16 30 3 13) (.Q 4 (jl 15 30 true 14) (.Q 5 (jl 16 30 true 1) (.P 6 (jc 17 176 [15,16]) (.P 7 (ji 18 16 30 3 11) (.e 8 (jo' 30 18 17) .nil)))))))))
def Z0gw:IC:=(.draw Z0ny [8])
def Z0jp:IC:=(.seq (.sq [jm 7 4,jb 8 .lss 7 (ci 16)] (.cond 8 .skip (.exit 0))) (.seq (.block 1 Z0gw) (.ops [jm 9 4,jb 10 .add 9 (ci 1),jm 4 10])))
def Z0gv:IC:=(.loop Z0jp)
def d283:FnD:=⟨20,[.cell 2 480 true],(.sq [jx 1 154 0,ja 2 344 [.rows 30 16 (fun _=>cells [Z10,Z10,Z10])]] (.sq [ja 3 344 [.rows 30 16 (fun _=>cells [Z10,Z10,Z10])]] (.sq [jc 5 284 [],ji 6 16 30 3 (ci 0),js' 30 6 5] (.seq (.sq [jm 4 (ci 1)] (.block 0 Z0gv)) (.sq [jl 19 480 true 3,js' 480 2 19] .ret)))))⟩
theorem Z0vz:okF Tryz.prog 283 d283=true:=by kernel_rfl
def Z0nz:Sch:=(.Q 0 (jl 29 10 true 5) (.Q 1 (jl 30 10 true 5) (.P 2 (jc 31 272 [29,30]) (.Q 3 (jl 32 10 true 6) (.P 4 (jc 33 270 [31,32]) (.e 5 (oi 7 (.al 152 [Z10])) (.e 6 (jo' 10 7 33) .nil)))))))
def Z0o0:Sch:=(.Q 0 (jl 39 10 true 8) (.Q 1 (jl 40 10 true 8) (.P 2 (jc 41 272 [39,40]) (.Q 3 (jl 42 10 true 7) (.P 4 (jc 43 180 [41,42]) (.e 5 (oi 9 (.al 152 [Z10])) (.e 6 (jo' 10 9 43) .nil)))))))
def Z0o1:Sch:=(.Q 0 (jl 44 10 true 3) (.Q 1 (jl 45 10 true 4) (.P 2 (jc 46 272 [44,45]) (.Q 3 (jl 47 10 true 6) (.P 4 (jc 48 180 [46,47]) (.e 5 (oi 10 (.al 152 [Z10])) (.e 6 (jo' 10 10 48) .nil)))))))
def Z0o2:Sch:=(.Q 0 (jl 49 10 true 9) (.Q 1 (jl 50 10 true 10) (.Q 2 (jl 51 10 true 6) (.Q 3 (jl 52 10 true 7) (.P 4 (jc 53 180 [51,52]) (.P 5 (jd 54 [Z10,Z10,Z10] [(0,10,49),(10,10,50),(20,10,53)]) (.e 6 (jo' 30 2 54) .nil)))))))
def d285:FnD:=⟨55,[.cell 2 30 true],(.sq [jx 1 154 0,ja 2 154 [Z10,Z10,Z10]] (.sq [jf 11 0 1,jl 12 10 true 11,jf 13 0 1,jl 14 10 true 13,jc 15 180 [12,14],ja 3 152 [Z10],js' 10 3 15] (.sq [jf 16 10 1,jl 17 10 true 16,jf 18 10 1,jl 19 10 true 18,jc 20 180 [17,19],ja 4 152 [Z10],js' 10 4 20] (.sq [jf 21 20 1,jl 22 10 true 21,jf 23 20 1,jl 24 10 true 23,jc 25 180 [22,24],ja 5 152 [Z10],js' 10 5 25] (.sq [jl 26 10 true 4,jl 27 10 true 3,jc 28 270 [26,27],ja 6 152 [Z10],js' 10 6 28] (.seq (.draw Z0nz [6]) (.sq [jf 34 0 1,jl 35 10 true 34,jf 36 10 1,jl 37 10 true 36,jc 38 180 [35,37],ja 8 152 [Z10],js' 10 8 38] (.seq (.draw Z0o0 [6]) (.seq (.draw Z0o1 [6]) (.seq (.draw Z0o2 [6]) .ret))))))))))⟩
theorem Z0w1:okF Tryz.prog 285 d285=true:=by kernel_rfl
def Z0mr:Sch:=(.P 5 (jm 20 7) (.P 6 (ji 21 32 1 2 20) (.Q 0 (jl 15 30 true 6) (.P 1 (jc 16 285 [15]) (.P 2 (jc 17 285 [16]) (.P 3 (jc 18 285 [17]) (.P 4 (jc 19 285 [18]) (.Q 7 (jl 22 1 false 21) (.P 8 (jb 23 .quo 22 (c8 16)) (.P 9 (ji 24 16 30 5 23) (.Q 10 (jl 25 30 true 24) (.P 11 (jc 26 176 [19,25]) (.e 12 (jo' 30 6 26) .nil)))))))))))))
def Z0ms:Sch:=(.P 5 (jm 32 7) (.P 6 (ji 33 32 1 2 32) (.Q 0 (jl 27 30 true 6) (.P 1 (jc 28 285 [27]) (.P 2 (jc 29 285 [28]) (.P 3 (jc 30 285 [29]) (.P 4 (jc 31 285 [30]) (.Q 7 (jl 34 1 false 33) (.P 8 (jb 35 .rem 34 (c8 16)) (.P 9 (ji 36 16 30 5 35) (.Q 10 (jl 37 30 true 36) (.P 11 (jc 38 176 [31,37]) (.e 12 (jo' 30 6 38) .nil)))))))))))))
def Z0f6:IC:=(.seq (.draw Z0mr [12]) (.draw Z0ms [12]))
def Z0iu:IC:=(.seq (.sq [jm 11 7,jb 12 .geq 11 (ci 0)] (.cond 12 .skip (.exit 0))) (.seq (.block 1 Z0f6) (.ops [jm 13 7,jb 14 .sub 13 (ci 1),jm 7 14])))
def Z0f5:IC:=(.loop Z0iu)
def d177:FnD:=⟨40,[.cell 4 30 true],(.sq [jx 2 149 0,jx 3 154 1,ja 4 154 [Z10,Z10,Z10]] (.sq [jl 8 30 true 3,jc 9 283 [8],ja 5 344 [.rows 30 16 (fun _=>cells [Z10,Z10,Z10])],js' 480 5 9] (.sq [jc 10 284 [],ja 6 154 [Z10,Z10,Z10],js' 30 6 10] (.seq (.sq [jm 7 (ci 31)] (.block 0 Z0f5)) (.sq [jl 39 30 true 6,js' 30 4 39] .ret)))))⟩
theorem Z0u0:okF Tryz.prog 177 d177=true:=by kernel_rfl
def d165:FnD:=⟨6,[.tmp 2],(.sq [jx 1 152 0,jm 2 (.const (.bool false))] (.sq [jl 3 10 true 1,jd 4 [Z10] [],oj 5 (.eqa false [(.i .u64,10)] 3 4),jm 2 5] .ret))⟩
theorem Z0to:okF Tryz.prog 165 d165=true:=by kernel_rfl
def d400:FnD:=⟨8,[.cell 2 10 true],(.sq [jx 1 152 0,ja 2 152 [Z10]] (.seq (.sq [jl 3 10 true 1,jc 4 181 [3]] (.cond 4 (.sq [jl 5 10 true 1,jc 6 166 [5],js' 10 2 6] .ret) .skip)) (.sq [jl 7 10 true 1,js' 10 2 7] .ret)))⟩
theorem Z0y5:okF Tryz.prog 400 d400=true:=by kernel_rfl
def Z0no:Sch:=(.Q 0 (jl 13 10 true 2) (.Q 1 (jl 14 10 true 3) (.P 2 (jc 15 178 [14]) (.P 3 (jc 16 180 [13,15]) (.e 4 (oi 6 (.al 152 [Z10])) (.e 5 (jo' 10 6 16) .nil))))))
def Z0np:Sch:=(.P 1 (jc 18 287 [(c8 254),(c8 15)]) (.Q 0 (jl 17 10 true 6) (.P 2 (jc 19 286 [17,18]) (.e 3 (oi 7 (.al 152 [Z10])) (.e 4 (jo' 10 7 19) .nil)))))
def Z0nq:Sch:=(.Q 0 (jl 20 10 true 7) (.Q 1 (jl 21 10 true 7) (.P 2 (jc 22 180 [20,21]) (.Q 3 (jl 23 10 true 6) (.P 4 (oj 24 (.eqa false [(.i .u64,10)] 22 23)) .nil)))))
def Z0nr:Sch:=(.P 1 (jc 28 271 [(cu 2)]) (.P 2 (jc 29 287 [(c8 251),(c8 31)]) (.P 3 (jc 30 286 [28,29]) (.Q 0 (jl 27 10 true 7) (.P 4 (jc 31 180 [27,30]) (.e 5 (jo' 10 7 31) .nil))))))
def Z0ns:Sch:=(.Q 0 (jl 32 10 true 7) (.Q 1 (jl 33 10 true 7) (.P 2 (jc 34 180 [32,33]) (.Q 3 (jl 35 10 true 6) (.P 4 (oj 36 (.eqa false [(.i .u64,10)] 34 35)) .nil)))))
def d274:FnD:=⟨40,[.cell 4 10 true,.tmp 5],(.sq [jx 2 152 0,jx 3 152 1,ja 4 152 [Z10],jm 5 (.const (.bool false))] (.seq (.sq [jl 8 10 true 3,jc 9 165 [8]] (.cond 9 (.sq [jd 10 [Z10] [],jl 11 10 true 2,jc 12 165 [11],js' 10 4 10,jm 5 12] .ret) .skip)) (.seq (.draw Z0no [5]) (.seq (.draw Z0np [4]) (.seq (.seq (.draw Z0nq []) (.cond 24 (.sq [jl 25 10 true 7,jc 26 400 [25],js' 10 4 26,jm 5 (.const (.bool true))] .ret) .skip)) (.seq (.draw Z0nr [5]) (.seq (.seq (.draw Z0ns []) (.cond 36 (.sq [jl 37 10 true 7,jc 38 400 [37],js' 10 4 38,jm 5 (.const (.bool true))] .ret) .skip)) (.sq [jd 39 [Z10] [],js' 10 4 39,jm 5 (.const (.bool false))] .ret))))))))⟩
theorem Z0vq:okF Tryz.prog 274 d274=true:=by kernel_rfl
def Z0mi:Sch:=(.P 1 (jc 11 271 [(cu 1)]) (.Q 0 (jl 10 10 true 4) (.P 2 (jc 12 270 [10,11]) (.e 3 (oi 5 (.al 152 [Z10])) (.e 4 (jo' 10 5 12) .nil)))))
def Z0mj:Sch:=(.P 0 (jc 13 273 []) (.Q 1 (jl 14 10 true 4) (.P 2 (jc 15 180 [13,14]) (.P 3 (jc 16 271 [(cu 1)]) (.P 4 (jc 17 272 [15,16]) (.e 5 (oi 6 (.al 152 [Z10])) (.e 6 (jo' 10 6 17) .nil)))))))
def d164:FnD:=⟨23,[.cell 2 10 true,.tmp 3],(.sq [jx 1 152 0,ja 2 152 [Z10],jm 3 (.const (.bool false))] (.sq [jl 7 10 true 1,jl 8 10 true 1,jc 9 180 [7,8],ja 4 152 [Z10],js' 10 4 9] (.seq (.draw Z0mi [4]) (.seq (.draw Z0mj [6]) (.sq [jl 18 10 true 5,jl 19 10 true 6,jc 20 274 [18,19],je 21 20 0,je 22 20 1,js' 10 2 21,jm 3 22] .ret)))))⟩
theorem Z0tn:okF Tryz.prog 164 d164=true:=by kernel_rfl
def Z0ml:Sch:=(.P 2 (jc 7 271 [(cu 1)]) (.Q 0 (jl 5 10 true 2) (.Q 1 (jl 6 10 true 3) (.P 3 (jd 8 [Z10,Z10,Z10] [(0,10,5),(10,10,6),(20,10,7)]) (.e 4 (jo' 30 4 8) .nil)))))
def d167:FnD:=⟨9,[.cell 4 30 true],(.sq [jx 2 152 0,jx 3 152 1,ja 4 154 [Z10,Z10,Z10]] (.seq (.draw Z0ml [4]) .ret))⟩
theorem Z0tq:okF Tryz.prog 167 d167=true:=by kernel_rfl
def d210:FnD:=⟨16,[.cell 0 30 true],(.sq [ja 0 154 [Z10,Z10,Z10]] (.sq [jc 4 271 [(cu 4)],jc 5 271 [(cu 5)],jc 6 178 [5],jc 7 180 [4,6],ja 1 152 [Z10],js' 10 1 7] (.sq [jl 9 10 true 1,jc 10 164 [9],jm 8 10,je 11 8 0,je 12 8 1,ja 2 152 [Z10],js' 10 2 11,jm 3 12] (.sq [jl 13 10 true 2,jl 14 10 true 1,jc 15 167 [13,14],js' 30 0 15] .ret))))⟩
theorem Z0uc:okF Tryz.prog 210 d210=true:=by kernel_rfl
def Z0mc:Sch:=(.P 1 (jc 4 210 []) (.Q 0 (jl 3 32 true 1) (.P 2 (jc 5 177 [3,4]) (.e 3 (jo' 30 2 5) .nil))))
def d116:FnD:=⟨6,[.cell 2 30 true],(.sq [jx 1 149 0,ja 2 154 [Z10,Z10,Z10]] (.seq (.draw Z0mc [3]) .ret))⟩
theorem Z0st:okF Tryz.prog 116 d116=true:=by kernel_rfl
def d115:FnD:=⟨7,[.cell 2 32 true],(.sq [jx 1 23 0,ja 2 44 [.ints .u8 32 (replicate 32 0)]] (.sq [jl 3 32 true 1,jc 4 114 [3],jc 5 116 [4],jc 6 100 [5],js' 32 2 6] .ret))⟩
theorem Z0ss:okF Tryz.prog 115 d115=true:=by kernel_rfl
def Z0fk:IC:=(.sq [jm 16 0,jm 17 7,jc 18 278 [16,17],jm 19 1,jm 20 7,jc 21 278 [19,20],jb 22 .add 18 21,jm 23 6,jb 24 .add 22 23,jm 8 24] (.sq [jm 25 5,jm 26 8,jb 27 .rem 26 (ci 256),oj 28 (.bs 3 1 1 [.one (.int .i64 0)] [(0,1,27)]),oj 29 (.app 3 1 8 [.one (.int .i64 0)] 25 28),jm 5 29] (.ops [jm 30 8,jb 31 .quo 30 (ci 256),jm 6 31])))
def Z0j1:IC:=(.seq (.sq [jm 9 7,jm 10 0,jm 11 1,jc 12 277 [10,11],jb 13 .lss 9 12] (.cond 13 .skip (.exit 0))) (.seq (.block 1 Z0fk) (.ops [jm 14 7,jb 15 .add 14 (ci 1),jm 7 15])))
def Z0fj:IC:=(.loop Z0j1)
def d211:FnD:=⟨36,[.tmp 4],(.sq [jm 4 (.const (.slice none 0 0))] (.sq [jm 5 (.const (.slice none 0 0))] (.sq [jm 6 (ci 0)] (.seq (.sq [jm 7 (ci 0)] (.block 0 Z0fj)) (.sq [jm 32 5,jm 33 6,oj 34 (.bs 3 1 1 [.one (.int .i64 0)] [(0,1,33)]),oj 35 (.app 3 1 8 [.one (.int .i64 0)] 32 34),jm 4 35] .ret)))))⟩
theorem Z0ud:okF Tryz.prog 211 d211=true:=by kernel_rfl
def Z0n0:Sch:=(.P 0 (jm 28 5) (.P 1 (jm 29 6) (.P 2 (jm 30 8) (.P 3 (jb 31 .add 29 30) (.P 4 (ji' 32 1 28 31) (.P 6 (jm 34 0) (.P 7 (jm 35 6) (.P 8 (ji' 36 1 34 35) (.P 10 (jm 38 1) (.P 11 (jm 39 8) (.P 12 (ji' 40 1 38 39) (.P 16 (jm 44 7) (.Q 5 (jl 33 1 false 32) (.Q 9 (jl 37 1 false 36) (.Q 13 (jl 41 1 false 40) (.P 14 (jb 42 .mul 37 41) (.P 15 (jb 43 .add 33 42) (.P 17 (jb 45 .add 43 44) (.P 18 (jm 9 45) .nil)))))))))))))))))))
def Z0fo:IC:=(.seq (.draw Z0n0 []) (.sq [jm 46 5,jm 47 6,jm 48 8,jb 49 .add 47 48,jm 50 9,jb 51 .rem 50 (ci 256),ji' 52 1 46 49,js' 1 52 51] (.ops [jm 53 9,jb 54 .quo 53 (ci 256),jm 7 54])))
def Z0j3:IC:=(.seq (.sq [jm 22 8,jm 23 1,jn' 24 23,jb 25 .lss 22 24] (.cond 25 .skip (.exit 2))) (.seq (.block 3 Z0fo) (.ops [jm 26 8,jb 27 .add 26 (ci 1),jm 8 27])))
def Z0fn:IC:=(.loop Z0j3)
def Z0fm:IC:=(.sq [jm 7 (ci 0)] (.seq (.sq [jm 8 (ci 0)] (.block 2 Z0fn)) (.ops [jm 55 5,jm 56 6,jm 57 1,jn' 58 57,jb 59 .add 56 58,jm 60 7,ji' 61 1 55 59,js' 1 61 60])))
def Z0j2:IC:=(.seq (.sq [jm 16 6,jm 17 0,jn' 18 17,jb 19 .lss 16 18] (.cond 19 .skip (.exit 0))) (.seq (.block 1 Z0fm) (.ops [jm 20 6,jb 21 .add 20 (ci 1),jm 6 21])))
def Z0fl:IC:=(.loop Z0j2)
def d212:FnD:=⟨63,[.tmp 4],(.sq [jm 4 (.const (.slice none 0 0))] (.sq [jm 10 0,jn' 11 10,jm 12 1,jn' 13 12,jb 14 .add 11 13,oj 15 (.mks 3 8 [.one (.int .i64 0)] 14 14),jm 5 15] (.seq (.sq [jm 6 (ci 0)] (.block 0 Z0fl)) (.sq [jm 62 5,jm 4 62] .ret))))⟩
theorem Z0ue:okF Tryz.prog 212 d212=true:=by kernel_rfl
def Z0md:Sch:=(.P 0 (oj 7 (.sla 32 1 3 none none none)) (.P 2 (oj 9 (.sla 32 1 4 none none none)) (.P 5 (oj 12 (.sla 32 1 5 none none none)) (.e 1 (oi 8 (.call 169 [7])) (.e 3 (oi 10 (.call 169 [9])) (.e 4 (oi 11 (.call 212 [8,10])) (.e 6 (oi 13 (.call 169 [12])) (.e 7 (oi 14 (.call 211 [11,13])) (.e 8 (oi 15 (.call 172 [14])) (.e 9 (oi 16 (.call 171 [15])) (.e 10 (jo' 32 6 16) .nil)))))))))))
def d117:FnD:=⟨17,[.cell 6 32 true],(.sq [jx 3 149 0,jx 4 149 1,jx 5 149 2,ja 6 149 [.ints .u8 32 (replicate 32 0)]] (.seq (.draw Z0md [10]) .ret))⟩
theorem Z0su:okF Tryz.prog 117 d117=true:=by kernel_rfl
def Z102:Sch:=(.P 0 (oj 29 (.sla 32 1 9 none none none)) (.P 1 (oj 30 (.sla 32 1 6 none none none)) (.P 2 (jm 31 1) (.two 3 (oi 32 (.call 97 [29,30,31])) (.two 4 (oi 33 (.call 96 [32])) (.P 5 (jc 34 95 [33]) (.e 6 (oi 10 (.al 149 [.ints .u8 32 (replicate 32 0)])) (.e 7 (jo' 32 10 34) .nil)))
 6 ⟨some 10,none,.al 149 [.ints .u8 32 (replicate 32 0)]⟩ (.e 4 (oi 33 (.call 96 [32])) (.P 5 (jc 34 95 [33]) (.e 7 (jo' 32 10 34) .nil))))
 6 ⟨some 10,none,.al 149 [.ints .u8 32 (replicate 32 0)]⟩ (.e 3 (oi 32 (.call 97 [29,30,31])) (.e 4 (oi 33 (.call 96 [32])) (.P 5 (jc 34 95 [33]) (.e 7 (jo' 32 10 34) .nil))))))))
def Z0qy:IC:=(.sq [jm 43 13,jm 44 13,ji 45 32 1 9 44,jl 46 1 false 45,ji 47 64 1 12 43,js' 1 47 46] (.ops [jm 48 13,jb 49 .add (ci 32) 48,jm 50 13,ji 51 32 1 11 50,jl 52 1 false 51,ji 53 64 1 12 49,js' 1 53 52]))
def Z0r7:IC:=(.seq (.sq [jm 39 13,jb 40 .lss 39 (ci 32)] (.cond 40 .skip (.exit 0))) (.seq (.block 1 Z0qy) (.ops [jm 41 13,jb 42 .add 41 (ci 1),jm 13 42])))
def Z0qx:IC:=(.loop Z0r7)
def d52:FnD:=⟨55,[.cell 4 64 true],(.sq [jx 2 23 0,ja 4 25 [.ints .u8 64 (replicate 64 0)]] (.sq [jl 14 32 true 2,jc 15 114 [14],ja 5 149 [.ints .u8 32 (replicate 32 0)],js' 32 5 15] (.sq [jl 16 32 true 2,jc 17 115 [16],ja 6 44 [.ints .u8 32 (replicate 32 0)],js' 32 6 17] (.sq [oj 18 (.sla 32 1 2 none none none),jc 19 96 [18],jc 20 92 [19,(.const (.bool true))],ja 7 22 [.ints .u8 32 (replicate 32 0)],js' 32 7 20] (.sq [oj 21 (.sla 32 1 7 none none none),jm 22 1,jc 23 97 [21,22,(.const (.slice none 0 0))],jc 24 96 [23],jc 25 95 [24],ja 8 149 [.ints .u8 32 (replicate 32 0)],js' 32 8 25] (.sq [jl 26 32 true 8,jc 27 116 [26],jc 28 100 [27],ja 9 44 [.ints .u8 32 (replicate 32 0)],js' 32 9 28] (.seq (.draw Z102 [7]) (.sq [jl 35 32 true 10,jl 36 32 true 5,jl 37 32 true 8,jc 38 117 [35,36,37],ja 11 149 [.ints .u8 32 (replicate 32 0)],js' 32 11 38] (.sq [ja 12 25 [.ints .u8 64 (replicate 64 0)]] (.seq (.sq [jm 13 (ci 0)] (.block 0 Z0qx)) (.sq [jl 54 64 true 12,js' 64 4 54] .ret)))))))))))⟩
theorem ok52:okF Tryz.prog 52 d52=true:=by kernel_rfl
def Z0zo:Sch:=(.Q 0 (jl 5 32 true 2) (.Q 1 (jl 6 99 true 3) (.e 2 (oi 7 (.call 46 [6])) (.e 3 (oi 8 (.call 52 [5,7])) (.P 4 (jf 9 35 3) (.e 5 (jo' 64 9 8) .nil))))))
def d16:FnD:=⟨11,[.cell 4 99 true],(.sq [jx 2 23 0,jx 3 27 1,ja 4 27 [.one (.int .i64 0),.one (.int .i64 0),.one (.int .i64 0),.ints .u8 32 (replicate 32 0),.ints .u8 64 (replicate 64 0)]] (.seq (.draw Z0zo [5]) (.sq [jl 10 99 true 3,js' 99 4 10] .ret)))⟩
theorem ok16:okF Tryz.prog 16 d16=true:=by kernel_rfl
def d53:FnD:=⟨2,[.cell 0 4 true],(.sq [ja 0 96 [.one .nilFunc,.one .nilFunc,.one .nilFunc,.one .nilFunc]] (.sq [jd 1 [.one .nilFunc,.one .nilFunc,.one .nilFunc,.one .nilFunc] [(0,1,(.func 118)),(1,1,(.func 119)),(2,1,(.func 120)),(3,1,(.func 121))],js' 4 0 1] .ret))⟩
theorem ok53:okF Tryz.prog 53 d53=true:=by kernel_rfl
def d90:FnD:=⟨11,[],(.sq [jx 3 27 1] (.sq [jm 4 0,jl 5 99 true 3,jc 6 101 [4,5]] (.ops [jm 7 0,jf 8 35 3,oj 9 (.sla 64 1 8 none none none),jc 10 107 [7,9]])))⟩
theorem ok90:okF Tryz.prog 90 d90=true:=by kernel_rfl
def d122:FnD:=⟨6,[.tmp 2],(.sq [jx 1 29 0,jm 2 (.const (.bool false))] (.sq [jf 3 0 1,jl 4 99 true 3,jc 5 88 [4],jm 2 5] .ret))⟩
theorem Z0sx:okF Tryz.prog 122 d122=true:=by kernel_rfl
def d55:FnD:=⟨14,[.tmp 2],(.sq [jx 1 29 0,jm 2 (.const (.slice none 0 0))] (.seq (.sq [jl 4 163 true 1,jc 5 122 [4],oj 6 (.un .not 5)] (.cond 6 (.sq [jm 2 (.const (.slice none 0 0))] .ret) .skip)) (.sq [jc 7 89 [(ci 4)],jm 3 7] (.sq [jm 8 3,jf 9 0 1,jl 10 99 true 9,jc 11 90 [8,10]] (.sq [jm 12 3,jc 13 91 [12],jm 2 13] .ret)))))⟩
theorem ok55:okF Tryz.prog 55 d55=true:=by kernel_rfl
def Z0zq:Sch:=(.Q 0 (jl 5 32 true 2) (.Q 1 (jl 6 163 true 3) (.e 2 (oi 7 (.call 55 [6])) (.e 3 (oi 8 (.call 52 [5,7])) (.P 4 (jf 9 99 3) (.e 5 (jo' 64 9 8) .nil))))))
def d18:FnD:=⟨11,[.cell 4 163 true],(.sq [jx 2 23 0,jx 3 29 1,ja 4 29 [.one (.int .i64 0),.one (.int .i64 0),.one (.int .i64 0),.ints .u8 32 (replicate 32 0),.ints .u8 64 (replicate 64 0),.ints .u8 64 (replicate 64 0)]] (.seq (.draw Z0zq [5]) (.sq [jl 10 163 true 3,js' 163 4 10] .ret)))⟩
theorem ok18:okF Tryz.prog 18 d18=true:=by kernel_rfl
def d56:FnD:=⟨2,[.cell 0 4 true],(.sq [ja 0 103 [.one .nilFunc,.one .nilFunc,.one .nilFunc,.one .nilFunc]] (.sq [jd 1 [.one .nilFunc,.one .nilFunc,.one .nilFunc,.one .nilFunc] [(0,1,(.func 123)),(1,1,(.func 124)),(2,1,(.func 125)),(3,1,(.func 126))],js' 4 0 1] .ret))⟩
theorem ok56:okF Tryz.prog 56 d56=true:=by kernel_rfl
def Z0me:LJ:=[jf 3 0 1,jl 4 1 false 3,jc 5 159 [4,(ci 1),(ci 65535)],jm 6 5,.lg false 6 10 none [.op ⟨some 7,(some (6,true)),.fa 1 1⟩,.op ⟨some 8,(some (6,true)),.ld 1 false 7⟩,.op ⟨some 9,(some (6,true)),.call 159 [8,(ci 1),(ci 16)]⟩] 9,jm 11 10,.lg false 11 15 none [.op ⟨some 12,(some (11,true)),.fa 2 1⟩,.op ⟨some 13,(some (11,true)),.ld 1 false 12⟩,.op ⟨some 14,(some (11,true)),.call 159 [13,(ci 0),(ci 4096)]⟩] 14,jm 2 15]
def d127:FnD:=⟨16,[.tmp 2],(.sq [jx 1 31 0,jm 2 (.const (.bool false))] (.sq Z0me .ret))⟩
theorem Z0t0:okF Tryz.prog 127 d127=true:=by kernel_rfl
def d128:FnD:=⟨23,[],(.sq [jx 3 31 1] (.sq [jm 4 0,jf 5 0 3,jl 6 1 false 5,jv 7 .u32 6,jc 8 106 [4,7]] (.sq [jm 9 0,jf 10 1 3,jl 11 1 false 10,jv 12 .u32 11,jc 13 106 [9,12]] (.sq [jm 14 0,jf 15 2 3,jl 16 1 false 15,jv 17 .u32 16,jc 18 106 [14,17]] (.ops [jm 19 0,jf 20 3 3,oj 21 (.sla 32 1 20 none none none),jc 22 107 [19,21]])))))⟩
theorem Z0t1:okF Tryz.prog 128 d128=true:=by kernel_rfl
def d58:FnD:=⟨13,[.tmp 2],(.sq [jx 1 31 0,jm 2 (.const (.slice none 0 0))] (.seq (.sq [jl 4 99 true 1,jc 5 127 [4],oj 6 (.un .not 5)] (.cond 6 (.sq [jm 2 (.const (.slice none 0 0))] .ret) .skip)) (.sq [jc 7 89 [(ci 5)],jm 3 7] (.sq [jm 8 3,jl 9 99 true 1,jc 10 128 [8,9]] (.sq [jm 11 3,jc 12 91 [11],jm 2 12] .ret)))))⟩
theorem ok58:okF Tryz.prog 58 d58=true:=by kernel_rfl
def Z0zs:Sch:=(.Q 0 (jl 5 32 true 2) (.Q 1 (jl 6 99 true 3) (.e 2 (oi 7 (.call 58 [6])) (.e 3 (oi 8 (.call 52 [5,7])) (.P 4 (jf 9 35 3) (.e 5 (jo' 64 9 8) .nil))))))
def d20:FnD:=⟨11,[.cell 4 99 true],(.sq [jx 2 23 0,jx 3 31 1,ja 4 31 [.one (.int .i64 0),.one (.int .i64 0),.one (.int .i64 0),.ints .u8 32 (replicate 32 0),.ints .u8 64 (replicate 64 0)]] (.seq (.draw Z0zs [5]) (.sq [jl 10 99 true 3,js' 99 4 10] .ret)))⟩
theorem ok20:okF Tryz.prog 20 d20=true:=by kernel_rfl
def d59:FnD:=⟨2,[.cell 0 4 true],(.sq [ja 0 110 [.one .nilFunc,.one .nilFunc,.one .nilFunc,.one .nilFunc]] (.sq [jd 1 [.one .nilFunc,.one .nilFunc,.one .nilFunc,.one .nilFunc] [(0,1,(.func 129)),(1,1,(.func 130)),(2,1,(.func 131)),(3,1,(.func 132))],js' 4 0 1] .ret))⟩
theorem ok59:okF Tryz.prog 59 d59=true:=by kernel_rfl
def d133:FnD:=⟨6,[.tmp 2],(.sq [jx 1 32 0,jm 2 (.const (.bool false))] (.sq [jf 3 0 1,jl 4 99 true 3,jc 5 88 [4],jm 2 5] .ret))⟩
theorem Z0t4:okF Tryz.prog 133 d133=true:=by kernel_rfl
def d61:FnD:=⟨14,[.tmp 2],(.sq [jx 1 32 0,jm 2 (.const (.slice none 0 0))] (.seq (.sq [jl 4 163 true 1,jc 5 133 [4],oj 6 (.un .not 5)] (.cond 6 (.sq [jm 2 (.const (.slice none 0 0))] .ret) .skip)) (.sq [jc 7 89 [(ci 6)],jm 3 7] (.sq [jm 8 3,jf 9 0 1,jl 10 99 true 9,jc 11 90 [8,10]] (.sq [jm 12 3,jc 13 91 [12],jm 2 13] .ret)))))⟩
theorem ok61:okF Tryz.prog 61 d61=true:=by kernel_rfl
def Z0zu:Sch:=(.Q 0 (jl 5 32 true 2) (.Q 1 (jl 6 163 true 3) (.e 2 (oi 7 (.call 61 [6])) (.e 3 (oi 8 (.call 52 [5,7])) (.P 4 (jf 9 99 3) (.e 5 (jo' 64 9 8) .nil))))))
def d22:FnD:=⟨11,[.cell 4 163 true],(.sq [jx 2 23 0,jx 3 32 1,ja 4 32 [.one (.int .i64 0),.one (.int .i64 0),.one (.int .i64 0),.ints .u8 32 (replicate 32 0),.ints .u8 64 (replicate 64 0),.ints .u8 64 (replicate 64 0)]] (.seq (.draw Z0zu [5]) (.sq [jl 10 163 true 3,js' 163 4 10] .ret)))⟩
theorem ok22:okF Tryz.prog 22 d22=true:=by kernel_rfl
def d62:FnD:=⟨2,[.cell 0 4 true],(.sq [ja 0 117 [.one .nilFunc,.one .nilFunc,.one .nilFunc,.one .nilFunc]] (.sq [jd 1 [.one .nilFunc,.one .nilFunc,.one .nilFunc,.one .nilFunc] [(0,1,(.func 134)),(1,1,(.func 135)),(2,1,(.func 136)),(3,1,(.func 137))],js' 4 0 1] .ret))⟩
theorem ok62:okF Tryz.prog 62 d62=true:=by kernel_rfl
def d138:FnD:=⟨6,[.tmp 2],(.sq [jx 1 34 0,jm 2 (.const (.bool false))] (.sq [jf 3 0 1,jl 4 1 false 3,jc 5 159 [4,(ci 1),(ci 65536)],jm 2 5] .ret))⟩
theorem Z0t7:okF Tryz.prog 138 d138=true:=by kernel_rfl
def d64:FnD:=⟨15,[.tmp 2],(.sq [jx 1 34 0,jm 2 (.const (.slice none 0 0))] (.seq (.sq [jl 4 65 true 1,jc 5 138 [4],oj 6 (.un .not 5)] (.cond 6 (.sq [jm 2 (.const (.slice none 0 0))] .ret) .skip)) (.sq [jc 7 89 [(ci 7)],jm 3 7] (.sq [jm 8 3,jf 9 0 1,jl 10 1 false 9,jv 11 .u32 10,jc 12 106 [8,11]] (.sq [jm 13 3,jc 14 91 [13],jm 2 14] .ret)))))⟩
theorem ok64:okF Tryz.prog 64 d64=true:=by kernel_rfl
def Z0zw:Sch:=(.Q 0 (jl 5 32 true 2) (.Q 1 (jl 6 65 true 3) (.e 2 (oi 7 (.call 64 [6])) (.e 3 (oi 8 (.call 52 [5,7])) (.P 4 (jf 9 1 3) (.e 5 (jo' 64 9 8) .nil))))))
def d24:FnD:=⟨11,[.cell 4 65 true],(.sq [jx 2 23 0,jx 3 34 1,ja 4 34 [.one (.int .i64 0),.ints .u8 64 (replicate 64 0)]] (.seq (.draw Z0zw [5]) (.sq [jl 10 65 true 3,js' 65 4 10] .ret)))⟩
theorem ok24:okF Tryz.prog 24 d24=true:=by kernel_rfl
def d65:FnD:=⟨2,[.cell 0 4 true],(.sq [ja 0 124 [.one .nilFunc,.one .nilFunc,.one .nilFunc,.one .nilFunc]] (.sq [jd 1 [.one .nilFunc,.one .nilFunc,.one .nilFunc,.one .nilFunc] [(0,1,(.func 139)),(1,1,(.func 140)),(2,1,(.func 141)),(3,1,(.func 142))],js' 4 0 1] .ret))⟩
theorem ok65:okF Tryz.prog 65 d65=true:=by kernel_rfl
def Z0mf:LJ:=[jf 3 0 1,jl 4 1 false 3,jc 5 159 [4,(ci 1),(ci 65535)],jm 6 5,.lg false 6 10 none [.op ⟨some 7,(some (6,true)),.fa 1 1⟩,.op ⟨some 8,(some (6,true)),.ld 1 false 7⟩,.op ⟨some 9,(some (6,true)),.call 159 [8,(ci 0),(ci 4096)]⟩] 9,jm 11 10,.lg false 11 15 none [.op ⟨some 12,(some (11,true)),.fa 2 1⟩,.op ⟨some 13,(some (11,true)),.ld 1 false 12⟩,.op ⟨some 14,(some (11,true)),.bin .geq 13 (ci 0)⟩] 14,jm 2 15]
def d143:FnD:=⟨16,[.tmp 2],(.sq [jx 1 36 0,jm 2 (.const (.bool false))] (.sq Z0mf .ret))⟩
theorem Z0ta:okF Tryz.prog 143 d143=true:=by kernel_rfl
def d144:FnD:=⟨19,[],(.sq [jx 3 36 1] (.sq [jm 4 0,jf 5 0 3,jl 6 1 false 5,jv 7 .u32 6,jc 8 106 [4,7]] (.sq [jm 9 0,jf 10 1 3,jl 11 1 false 10,jv 12 .u32 11,jc 13 106 [9,12]] (.ops [jm 14 0,jf 15 2 3,jl 16 1 false 15,jv 17 .u64 16,jc 18 182 [14,17]]))))⟩
theorem Z0tb:okF Tryz.prog 144 d144=true:=by kernel_rfl
def d67:FnD:=⟨13,[.tmp 2],(.sq [jx 1 36 0,jm 2 (.const (.slice none 0 0))] (.seq (.sq [jl 4 67 true 1,jc 5 143 [4],oj 6 (.un .not 5)] (.cond 6 (.sq [jm 2 (.const (.slice none 0 0))] .ret) .skip)) (.sq [jc 7 89 [(ci 8)],jm 3 7] (.sq [jm 8 3,jl 9 67 true 1,jc 10 144 [8,9]] (.sq [jm 11 3,jc 12 91 [11],jm 2 12] .ret)))))⟩
theorem ok67:okF Tryz.prog 67 d67=true:=by kernel_rfl
def Z0zy:Sch:=(.Q 0 (jl 5 32 true 2) (.Q 1 (jl 6 67 true 3) (.e 2 (oi 7 (.call 67 [6])) (.e 3 (oi 8 (.call 52 [5,7])) (.P 4 (jf 9 3 3) (.e 5 (jo' 64 9 8) .nil))))))
def d26:FnD:=⟨11,[.cell 4 67 true],(.sq [jx 2 23 0,jx 3 36 1,ja 4 36 [.one (.int .i64 0),.one (.int .i64 0),.one (.int .i64 0),.ints .u8 64 (replicate 64 0)]] (.seq (.draw Z0zy [5]) (.sq [jl 10 67 true 3,js' 67 4 10] .ret)))⟩
theorem ok26:okF Tryz.prog 26 d26=true:=by kernel_rfl
def d68:FnD:=⟨2,[.cell 0 4 true],(.sq [ja 0 131 [.one .nilFunc,.one .nilFunc,.one .nilFunc,.one .nilFunc]] (.sq [jd 1 [.one .nilFunc,.one .nilFunc,.one .nilFunc,.one .nilFunc] [(0,1,(.func 145)),(1,1,(.func 146)),(2,1,(.func 147)),(3,1,(.func 148))],js' 4 0 1] .ret))⟩
theorem ok68:okF Tryz.prog 68 d68=true:=by kernel_rfl
def d149:FnD:=⟨6,[.tmp 2],(.sq [jx 1 38 0,jm 2 (.const (.bool false))] (.sq [jf 3 0 1,jl 4 1 false 3,jc 5 159 [4,(ci 0),(ci 65536)],jm 2 5] .ret))⟩
theorem Z0te:okF Tryz.prog 149 d149=true:=by kernel_rfl
def d70:FnD:=⟨19,[.tmp 2],(.sq [jx 1 38 0,jm 2 (.const (.slice none 0 0))] (.seq (.sq [jl 4 97 true 1,jc 5 149 [4],oj 6 (.un .not 5)] (.cond 6 (.sq [jm 2 (.const (.slice none 0 0))] .ret) .skip)) (.sq [jc 7 89 [(ci 10)],jm 3 7] (.sq [jm 8 3,jf 9 0 1,jl 10 1 false 9,jv 11 .u32 10,jc 12 106 [8,11]] (.sq [jm 13 3,jf 14 1 1,oj 15 (.sla 32 1 14 none none none),jc 16 107 [13,15]] (.sq [jm 17 3,jc 18 91 [17],jm 2 18] .ret))))))⟩
theorem ok70:okF Tryz.prog 70 d70=true:=by kernel_rfl
def Z100:Sch:=(.Q 0 (jl 5 32 true 2) (.Q 1 (jl 6 97 true 3) (.e 2 (oi 7 (.call 70 [6])) (.e 3 (oi 8 (.call 52 [5,7])) (.P 4 (jf 9 33 3) (.e 5 (jo' 64 9 8) .nil))))))
def d28:FnD:=⟨11,[.cell 4 97 true],(.sq [jx 2 23 0,jx 3 38 1,ja 4 38 [.one (.int .i64 0),.ints .u8 32 (replicate 32 0),.ints .u8 64 (replicate 64 0)]] (.seq (.draw Z100 [5]) (.sq [jl 10 97 true 3,js' 97 4 10] .ret)))⟩
theorem ok28:okF Tryz.prog 28 d28=true:=by kernel_rfl
def r7_3:LJ:=[jm 8 3,jd 9 [.ints .u8 32 (replicate 32 0)] [(0,1,(c8 7))],jd 10 [.ints .u8 32 (replicate 32 0)] [(0,1,(c8 8))],oj 11 (.bs 44 2 32 [.ints .u8 32 (replicate 32 0),.ints .u8 32 (replicate 32 0)] [(0,32,9),(32,32,10)]),oj 12 (.app 44 32 32 [.ints .u8 32 (replicate 32 0)] 8 11),jm 3 12]
def d7:FnD:=⟨20,[.cell 2 33 true],(.sq [jx 1 47 0,ja 2 47 [.ints .u8 32 (replicate 32 0),.one (.slice none 0 0)]] (.sq [jm 3 (.const (.slice none 0 0))] (.sq [jm 4 3,jf 5 32 1,jl 6 1 false 5,oj 7 (.app 44 32 32 [.ints .u8 32 (replicate 32 0)] 4 6),jm 3 7] (.sq r7_3 (.sq [jm 13 3,jf 14 32 1,jl 15 1 false 14,jn' 16 15,oj 17 (.sls 32 13 none (some 16) none),jf 18 32 1,js' 1 18 17] (.sq [jl 19 33 true 1,js' 33 2 19] .ret))))))⟩
def r9_3:LJ:=[jf 15 0 2,jl 16 32 true 15,jf 17 0 3,jl 18 32 true 17,oj 19 (.eqa false [(.i .u8,32)] 16 18),jm 20 19,.lg false 20 26 none [.op ⟨some 21,(some (20,true)),.fa 32 2⟩,.op ⟨some 22,(some (20,true)),.ld 1 false 21⟩,.op ⟨some 23,(some (20,true)),.fa 32 3⟩,.op ⟨some 24,(some (20,true)),.ld 1 false 23⟩,.op ⟨some 25,(some (20,true)),.call 41 [22,24]⟩] 25,jm 27 26,.lg false 27 34 none [.op ⟨some 28,(some (27,true)),.mv 6⟩,.op ⟨some 29,(some (27,true)),.mv 5⟩,.op ⟨some 30,(some (27,true)),.ias 32 28 29⟩,.op ⟨some 31,(some (27,true)),.ld 32 true 30⟩,.op ⟨some 32,(some (27,true)),.bd [.ints .u8 32 (replicate 32 0)] [(0,1,(c8 7))]⟩,.op ⟨some 33,(some (27,true)),.eqa false [(.i .u8,32)] 31 32⟩] 33,jm 35 34,.lg false 35 43 none [.op ⟨some 36,(some (35,true)),.mv 6⟩,.op ⟨some 37,(some (35,true)),.mv 5⟩,.op ⟨some 38,(some (35,true)),.bin .add 37 (ci 1)⟩,.op ⟨some 39,(some (35,true)),.ias 32 36 38⟩,.op ⟨some 40,(some (35,true)),.ld 32 true 39⟩,.op ⟨some 41,(some (35,true)),.bd [.ints .u8 32 (replicate 32 0)] [(0,1,(c8 8))]⟩,.op ⟨some 42,(some (35,true)),.eqa false [(.i .u8,32)] 40 41⟩] 42,jm 4 43]
def d9:FnD:=⟨44,[.tmp 4],(.sq [jx 2 47 0,jx 3 47 1,jm 4 (.const (.bool false))] (.sq [jf 7 32 3,jl 8 1 false 7,jn' 9 8,jm 5 9] (.sq [jf 10 32 2,jl 11 1 false 10,jm 12 5,jb 13 .add 12 (ci 2),oj 14 (.sls 32 11 none (some 13) none),jm 6 14] (.sq r9_3 .ret))))⟩
def Z101:Sch:=(.P 0 (jf 7 2 3) (.P 4 (jf 11 1 3) (.Q 1 (jl 8 1 false 7) (.Q 3 (jl 10 32 true 4) (.Q 5 (jl 12 1 false 11) (.Q 6 (jl 13 99 true 5) (.e 2 (oi 9 (.cv 8 [5])) (.e 7 (oi 14 (.cv 12 [13])) (.e 8 (oi 15 (.call 113 [10,14])) (.P 9 (jz 16 9) (.e 10 (jo' 64 16 15) .nil)))))))))))
def d51:FnD:=⟨18,[.cell 6 99 true],(.sq [jx 3 79 0,jx 4 23 1,jx 5 27 2,ja 6 27 [.one (.int .i64 0),.one (.int .i64 0),.one (.int .i64 0),.ints .u8 32 (replicate 32 0),.ints .u8 64 (replicate 64 0)]] (.seq (.draw Z101 [10]) (.sq [jl 17 99 true 5,js' 99 6 17] .ret)))⟩
theorem ok51:okF Tryz.prog 51 d51=true:=by kernel_rfl
def Z0zn:Sch:=(.Q 1 (jl 6 32 true 2) (.Q 2 (jl 7 99 true 3) (.e 0 (oi 5 (.call 42 [])) (.e 3 (oi 8 (.call 51 [5,6,7])) (.e 4 (jo' 99 4 8) .nil)))))
def d15:FnD:=⟨9,[.cell 4 99 true],(.sq [jx 2 23 0,jx 3 27 1,ja 4 27 [.one (.int .i64 0),.one (.int .i64 0),.one (.int .i64 0),.ints .u8 32 (replicate 32 0),.ints .u8 64 (replicate 64 0)]] (.seq (.draw Z0zn [4]) .ret))⟩
theorem ok15:okF Tryz.prog 15 d15=true:=by kernel_rfl
def Z103:Sch:=(.P 0 (jf 7 2 3) (.P 4 (jf 11 1 3) (.Q 1 (jl 8 1 false 7) (.Q 3 (jl 10 32 true 4) (.Q 5 (jl 12 1 false 11) (.Q 6 (jl 13 163 true 5) (.e 2 (oi 9 (.cv 8 [5])) (.e 7 (oi 14 (.cv 12 [13])) (.e 8 (oi 15 (.call 113 [10,14])) (.P 9 (jz 16 9) (.e 10 (jo' 64 16 15) .nil)))))))))))
def d54:FnD:=⟨18,[.cell 6 163 true],(.sq [jx 3 96 0,jx 4 23 1,jx 5 29 2,ja 6 29 [.one (.int .i64 0),.one (.int .i64 0),.one (.int .i64 0),.ints .u8 32 (replicate 32 0),.ints .u8 64 (replicate 64 0),.ints .u8 64 (replicate 64 0)]] (.seq (.draw Z103 [10]) (.sq [jl 17 163 true 5,js' 163 6 17] .ret)))⟩
theorem ok54:okF Tryz.prog 54 d54=true:=by kernel_rfl
def Z0zp:Sch:=(.Q 1 (jl 6 32 true 2) (.Q 2 (jl 7 163 true 3) (.e 0 (oi 5 (.call 53 [])) (.e 3 (oi 8 (.call 54 [5,6,7])) (.e 4 (jo' 163 4 8) .nil)))))
def d17:FnD:=⟨9,[.cell 4 163 true],(.sq [jx 2 23 0,jx 3 29 1,ja 4 29 [.one (.int .i64 0),.one (.int .i64 0),.one (.int .i64 0),.ints .u8 32 (replicate 32 0),.ints .u8 64 (replicate 64 0),.ints .u8 64 (replicate 64 0)]] (.seq (.draw Z0zp [4]) .ret))⟩
theorem ok17:okF Tryz.prog 17 d17=true:=by kernel_rfl
def Z104:Sch:=(.P 0 (jf 7 2 3) (.P 4 (jf 11 1 3) (.Q 1 (jl 8 1 false 7) (.Q 3 (jl 10 32 true 4) (.Q 5 (jl 12 1 false 11) (.Q 6 (jl 13 99 true 5) (.e 2 (oi 9 (.cv 8 [5])) (.e 7 (oi 14 (.cv 12 [13])) (.e 8 (oi 15 (.call 113 [10,14])) (.P 9 (jz 16 9) (.e 10 (jo' 64 16 15) .nil)))))))))))
def d57:FnD:=⟨18,[.cell 6 99 true],(.sq [jx 3 103 0,jx 4 23 1,jx 5 31 2,ja 6 31 [.one (.int .i64 0),.one (.int .i64 0),.one (.int .i64 0),.ints .u8 32 (replicate 32 0),.ints .u8 64 (replicate 64 0)]] (.seq (.draw Z104 [10]) (.sq [jl 17 99 true 5,js' 99 6 17] .ret)))⟩
theorem ok57:okF Tryz.prog 57 d57=true:=by kernel_rfl
def Z0zr:Sch:=(.Q 1 (jl 6 32 true 2) (.Q 2 (jl 7 99 true 3) (.e 0 (oi 5 (.call 56 [])) (.e 3 (oi 8 (.call 57 [5,6,7])) (.e 4 (jo' 99 4 8) .nil)))))
def d19:FnD:=⟨9,[.cell 4 99 true],(.sq [jx 2 23 0,jx 3 31 1,ja 4 31 [.one (.int .i64 0),.one (.int .i64 0),.one (.int .i64 0),.ints .u8 32 (replicate 32 0),.ints .u8 64 (replicate 64 0)]] (.seq (.draw Z0zr [4]) .ret))⟩
theorem ok19:okF Tryz.prog 19 d19=true:=by kernel_rfl
def Z105:Sch:=(.P 0 (jf 7 2 3) (.P 4 (jf 11 1 3) (.Q 1 (jl 8 1 false 7) (.Q 3 (jl 10 32 true 4) (.Q 5 (jl 12 1 false 11) (.Q 6 (jl 13 163 true 5) (.e 2 (oi 9 (.cv 8 [5])) (.e 7 (oi 14 (.cv 12 [13])) (.e 8 (oi 15 (.call 113 [10,14])) (.P 9 (jz 16 9) (.e 10 (jo' 64 16 15) .nil)))))))))))
def d60:FnD:=⟨18,[.cell 6 163 true],(.sq [jx 3 110 0,jx 4 23 1,jx 5 32 2,ja 6 32 [.one (.int .i64 0),.one (.int .i64 0),.one (.int .i64 0),.ints .u8 32 (replicate 32 0),.ints .u8 64 (replicate 64 0),.ints .u8 64 (replicate 64 0)]] (.seq (.draw Z105 [10]) (.sq [jl 17 163 true 5,js' 163 6 17] .ret)))⟩
theorem ok60:okF Tryz.prog 60 d60=true:=by kernel_rfl
def Z0zt:Sch:=(.Q 1 (jl 6 32 true 2) (.Q 2 (jl 7 163 true 3) (.e 0 (oi 5 (.call 59 [])) (.e 3 (oi 8 (.call 60 [5,6,7])) (.e 4 (jo' 163 4 8) .nil)))))
def d21:FnD:=⟨9,[.cell 4 163 true],(.sq [jx 2 23 0,jx 3 32 1,ja 4 32 [.one (.int .i64 0),.one (.int .i64 0),.one (.int .i64 0),.ints .u8 32 (replicate 32 0),.ints .u8 64 (replicate 64 0),.ints .u8 64 (replicate 64 0)]] (.seq (.draw Z0zt [4]) .ret))⟩
theorem ok21:okF Tryz.prog 21 d21=true:=by kernel_rfl
def Z106:Sch:=(.P 0 (jf 7 2 3) (.P 4 (jf 11 1 3) (.Q 1 (jl 8 1 false 7) (.Q 3 (jl 10 32 true 4) (.Q 5 (jl 12 1 false 11) (.Q 6 (jl 13 65 true 5) (.e 2 (oi 9 (.cv 8 [5])) (.e 7 (oi 14 (.cv 12 [13])) (.e 8 (oi 15 (.call 113 [10,14])) (.P 9 (jz 16 9) (.e 10 (jo' 64 16 15) .nil)))))))))))
def d63:FnD:=⟨18,[.cell 6 65 true],(.sq [jx 3 117 0,jx 4 23 1,jx 5 34 2,ja 6 34 [.one (.int .i64 0),.ints .u8 64 (replicate 64 0)]] (.seq (.draw Z106 [10]) (.sq [jl 17 65 true 5,js' 65 6 17] .ret)))⟩
theorem ok63:okF Tryz.prog 63 d63=true:=by kernel_rfl
def Z0zv:Sch:=(.Q 1 (jl 6 32 true 2) (.Q 2 (jl 7 65 true 3) (.e 0 (oi 5 (.call 62 [])) (.e 3 (oi 8 (.call 63 [5,6,7])) (.e 4 (jo' 65 4 8) .nil)))))
def d23:FnD:=⟨9,[.cell 4 65 true],(.sq [jx 2 23 0,jx 3 34 1,ja 4 34 [.one (.int .i64 0),.ints .u8 64 (replicate 64 0)]] (.seq (.draw Z0zv [4]) .ret))⟩
theorem ok23:okF Tryz.prog 23 d23=true:=by kernel_rfl
def Z107:Sch:=(.P 0 (jf 7 2 3) (.P 4 (jf 11 1 3) (.Q 1 (jl 8 1 false 7) (.Q 3 (jl 10 32 true 4) (.Q 5 (jl 12 1 false 11) (.Q 6 (jl 13 67 true 5) (.e 2 (oi 9 (.cv 8 [5])) (.e 7 (oi 14 (.cv 12 [13])) (.e 8 (oi 15 (.call 113 [10,14])) (.P 9 (jz 16 9) (.e 10 (jo' 64 16 15) .nil)))))))))))
def d66:FnD:=⟨18,[.cell 6 67 true],(.sq [jx 3 124 0,jx 4 23 1,jx 5 36 2,ja 6 36 [.one (.int .i64 0),.one (.int .i64 0),.one (.int .i64 0),.ints .u8 64 (replicate 64 0)]] (.seq (.draw Z107 [10]) (.sq [jl 17 67 true 5,js' 67 6 17] .ret)))⟩
theorem ok66:okF Tryz.prog 66 d66=true:=by kernel_rfl
def Z0zx:Sch:=(.Q 1 (jl 6 32 true 2) (.Q 2 (jl 7 67 true 3) (.e 0 (oi 5 (.call 65 [])) (.e 3 (oi 8 (.call 66 [5,6,7])) (.e 4 (jo' 67 4 8) .nil)))))
def d25:FnD:=⟨9,[.cell 4 67 true],(.sq [jx 2 23 0,jx 3 36 1,ja 4 36 [.one (.int .i64 0),.one (.int .i64 0),.one (.int .i64 0),.ints .u8 64 (replicate 64 0)]] (.seq (.draw Z0zx [4]) .ret))⟩
theorem ok25:okF Tryz.prog 25 d25=true:=by kernel_rfl
def Z108:Sch:=(.P 0 (jf 7 2 3) (.P 4 (jf 11 1 3) (.Q 1 (jl 8 1 false 7) (.Q 3 (jl 10 32 true 4) (.Q 5 (jl 12 1 false 11) (.Q 6 (jl 13 97 true 5) (.e 2 (oi 9 (.cv 8 [5])) (.e 7 (oi 14 (.cv 12 [13])) (.e 8 (oi 15 (.call 113 [10,14])) (.P 9 (jz 16 9) (.e 10 (jo' 64 16 15) .nil)))))))))))
def d69:FnD:=⟨18,[.cell 6 97 true],(.sq [jx 3 131 0,jx 4 23 1,jx 5 38 2,ja 6 38 [.one (.int .i64 0),.ints .u8 32 (replicate 32 0),.ints .u8 64 (replicate 64 0)]] (.seq (.draw Z108 [10]) (.sq [jl 17 97 true 5,js' 97 6 17] .ret)))⟩
theorem ok69:okF Tryz.prog 69 d69=true:=by kernel_rfl
def Z0zz:Sch:=(.Q 1 (jl 6 32 true 2) (.Q 2 (jl 7 97 true 3) (.e 0 (oi 5 (.call 68 [])) (.e 3 (oi 8 (.call 69 [5,6,7])) (.e 4 (jo' 97 4 8) .nil)))))
def d27:FnD:=⟨9,[.cell 4 97 true],(.sq [jx 2 23 0,jx 3 38 1,ja 4 38 [.one (.int .i64 0),.ints .u8 32 (replicate 32 0),.ints .u8 64 (replicate 64 0)]] (.seq (.draw Z0zz [4]) .ret))⟩
theorem ok27:okF Tryz.prog 27 d27=true:=by kernel_rfl
def r6_0:LJ:=[jx 2 23 0,jx 3 40 1,ja 4 40 [.one (.int .i64 0),.one (.int .i64 0),.one (.int .i64 0),.one (.int .i64 0),.ints .u8 32 (replicate 32 0),.ints .u8 64 (replicate 64 0),.one (.int .i64 0),.one (.int .i64 0),.one (.int .i64 0),.ints .u8 32 (replicate 32 0),.ints .u8 64 (replicate 64 0),.ints .u8 64 (replicate 64 0),.one (.int .i64 0),.one (.int .i64 0),.one (.int .i64 0),.ints .u8 32 (replicate 32 0),.ints .u8 64 (replicate 64 0),.one (.int .i64 0),.one (.int .i64 0),.one (.int .i64 0),.ints .u8 32 (replicate 32 0),.ints .u8 64 (replicate 64 0),.ints .u8 64 (replicate 64 0),.one (.int .i64 0),.ints .u8 64 (replicate 64 0),.one (.int .i64 0),.one (.int .i64 0),.one (.int .i64 0),.ints .u8 64 (replicate 64 0),.one (.int .i64 0),.ints .u8 32 (replicate 32 0),.ints .u8 64 (replicate 64 0)],ja 5 40 [.one (.int .i64 0),.one (.int .i64 0),.one (.int .i64 0),.one (.int .i64 0),.ints .u8 32 (replicate 32 0),.ints .u8 64 (replicate 64 0),.one (.int .i64 0),.one (.int .i64 0),.one (.int .i64 0),.ints .u8 32 (replicate 32 0),.ints .u8 64 (replicate 64 0),.ints .u8 64 (replicate 64 0),.one (.int .i64 0),.one (.int .i64 0),.one (.int .i64 0),.ints .u8 32 (replicate 32 0),.ints .u8 64 (replicate 64 0),.one (.int .i64 0),.one (.int .i64 0),.one (.int .i64 0),.ints .u8 32 (replicate 32 0),.ints .u8 64 (replicate 64 0),.ints .u8 64 (replicate 64 0),.one (.int .i64 0),.ints .u8 64 (replicate 64 0),.one (.int .i64 0),.one (.int .i64 0),.one (.int .i64 0),.ints .u8 64 (replicate 64 0),.one (.int .i64 0),.ints .u8 32 (replicate 32 0),.ints .u8 64 (replicate 64 0)]]
def r6_1:LJ:=[jl 7 754 true 3,ja 6 40 [.one (.int .i64 0),.one (.int .i64 0),.one (.int .i64 0),.one (.int .i64 0),.ints .u8 32 (replicate 32 0),.ints .u8 64 (replicate 64 0),.one (.int .i64 0),.one (.int .i64 0),.one (.int .i64 0),.ints .u8 32 (replicate 32 0),.ints .u8 64 (replicate 64 0),.ints .u8 64 (replicate 64 0),.one (.int .i64 0),.one (.int .i64 0),.one (.int .i64 0),.ints .u8 32 (replicate 32 0),.ints .u8 64 (replicate 64 0),.one (.int .i64 0),.one (.int .i64 0),.one (.int .i64 0),.ints .u8 32 (replicate 32 0),.ints .u8 64 (replicate 64 0),.ints .u8 64 (replicate 64 0),.one (.int .i64 0),.ints .u8 64 (replicate 64 0),.one (.int .i64 0),.one (.int .i64 0),.one (.int .i64 0),.ints .u8 64 (replicate 64 0),.one (.int .i64 0),.ints .u8 32 (replicate 32 0),.ints .u8 64 (replicate 64 0)],js' 754 6 7]
def k6_0:IC:=(.sq [jb 11 .eql 9 (ci 1),jm 10 11] (.cond 10 (.sq [jl 12 32 true 2,jf 13 1 3,jl 14 99 true 13,jc 15 15 [12,14],jf 16 1 3,js' 99 16 15] (.ops [jl 17 32 true 2,jf 18 1 6,jl 19 99 true 18,jc 20 16 [17,19],jf 21 1 6,js' 99 21 20])) (.sq [jb 23 .eql 9 (ci 2),jm 22 23] (.cond 22 (.sq [jl 24 32 true 2,jf 25 100 3,jl 26 163 true 25,jc 27 17 [24,26],jf 28 100 3,js' 163 28 27] (.ops [jl 29 32 true 2,jf 30 100 6,jl 31 163 true 30,jc 32 18 [29,31],jf 33 100 6,js' 163 33 32])) (.sq [jb 35 .eql 9 (ci 3),jm 34 35] (.cond 34 (.sq [jl 36 32 true 2,jf 37 263 3,jl 38 99 true 37,jc 39 19 [36,38],jf 40 263 3,js' 99 40 39] (.ops [jl 41 32 true 2,jf 42 263 6,jl 43 99 true 42,jc 44 20 [41,43],jf 45 263 6,js' 99 45 44])) (.sq [jb 47 .eql 9 (ci 4),jm 46 47] (.cond 46 (.sq [jl 48 32 true 2,jf 49 362 3,jl 50 163 true 49,jc 51 21 [48,50],jf 52 362 3,js' 163 52 51] (.ops [jl 53 32 true 2,jf 54 362 6,jl 55 163 true 54,jc 56 22 [53,55],jf 57 362 6,js' 163 57 56])) (.sq [jb 59 .eql 9 (ci 5),jm 58 59] (.cond 58 (.sq [jl 60 32 true 2,jf 61 525 3,jl 62 65 true 61,jc 63 23 [60,62],jf 64 525 3,js' 65 64 63] (.ops [jl 65 32 true 2,jf 66 525 6,jl 67 65 true 66,jc 68 24 [65,67],jf 69 525 6,js' 65 69 68])) (.sq [jb 71 .eql 9 (ci 6),jm 70 71] (.cond 70 (.sq [jl 72 32 true 2,jf 73 590 3,jl 74 67 true 73,jc 75 25 [72,74],jf 76 590 3,js' 67 76 75] (.ops [jl 77 32 true 2,jf 78 590 6,jl 79 67 true 78,jc 80 26 [77,79],jf 81 590 6,js' 67 81 80])) (.sq [jb 83 .eql 9 (ci 7),jm 82 83] (.cond 82 (.sq [jl 84 32 true 2,jf 85 657 3,jl 86 97 true 85,jc 87 27 [84,86],jf 88 657 3,js' 97 88 87] (.ops [jl 89 32 true 2,jf 90 657 6,jl 91 97 true 90,jc 92 28 [89,91],jf 93 657 6,js' 97 93 92])) .skip))))))))))))))
def Z109:Sch:=(.Q 0 (jl 94 754 true 3) (.Q 1 (jl 95 754 true 6) (.e 2 (jo' 754 4 94) (.e 3 (jo' 754 5 95) .nil))))
def d6:FnD:=⟨96,[.cell 4 754 true,.cell 5 754 true],(.sq r6_0 (.sq r6_1 (.seq (.sq [jf 8 0 3,jl 9 1 false 8] (.block 0 k6_0)) (.seq (.draw Z109 []) .ret))))⟩
theorem ok6:okF Tryz.prog 6 d6=true:=by kernel_rfl
def r3_1:LJ:=[jl 8 32 true 2,jl 9 754 true 3,jc 10 6 [8,9],jm 7 10,je 11 7 0,je 12 7 1,ja 5 40 [.one (.int .i64 0),.one (.int .i64 0),.one (.int .i64 0),.one (.int .i64 0),.ints .u8 32 (replicate 32 0),.ints .u8 64 (replicate 64 0),.one (.int .i64 0),.one (.int .i64 0),.one (.int .i64 0),.ints .u8 32 (replicate 32 0),.ints .u8 64 (replicate 64 0),.ints .u8 64 (replicate 64 0),.one (.int .i64 0),.one (.int .i64 0),.one (.int .i64 0),.ints .u8 32 (replicate 32 0),.ints .u8 64 (replicate 64 0),.one (.int .i64 0),.one (.int .i64 0),.one (.int .i64 0),.ints .u8 32 (replicate 32 0),.ints .u8 64 (replicate 64 0),.ints .u8 64 (replicate 64 0),.one (.int .i64 0),.ints .u8 64 (replicate 64 0),.one (.int .i64 0),.one (.int .i64 0),.one (.int .i64 0),.ints .u8 64 (replicate 64 0),.one (.int .i64 0),.ints .u8 32 (replicate 32 0),.ints .u8 64 (replicate 64 0)],ja 6 40 [.one (.int .i64 0),.one (.int .i64 0),.one (.int .i64 0),.one (.int .i64 0),.ints .u8 32 (replicate 32 0),.ints .u8 64 (replicate 64 0),.one (.int .i64 0),.one (.int .i64 0),.one (.int .i64 0),.ints .u8 32 (replicate 32 0),.ints .u8 64 (replicate 64 0),.ints .u8 64 (replicate 64 0),.one (.int .i64 0),.one (.int .i64 0),.one (.int .i64 0),.ints .u8 32 (replicate 32 0),.ints .u8 64 (replicate 64 0),.one (.int .i64 0),.one (.int .i64 0),.one (.int .i64 0),.ints .u8 32 (replicate 32 0),.ints .u8 64 (replicate 64 0),.ints .u8 64 (replicate 64 0),.one (.int .i64 0),.ints .u8 64 (replicate 64 0),.one (.int .i64 0),.one (.int .i64 0),.one (.int .i64 0),.ints .u8 64 (replicate 64 0),.one (.int .i64 0),.ints .u8 32 (replicate 32 0),.ints .u8 64 (replicate 64 0)],js' 754 5 11,js' 754 6 12]
def d3:FnD:=⟨16,[.tmp 4],(.sq [jx 2 23 0,jx 3 40 1,jm 4 (.const (.bool false))] (.sq r3_1 (.sq [jl 13 754 true 5,jl 14 754 true 6,oj 15 (.eqa false [(.i .i64,4),(.i .u8,96),(.i .i64,3),(.i .u8,160),(.i .i64,3),(.i .u8,96),(.i .i64,3),(.i .u8,160),(.i .i64,1),(.i .u8,64),(.i .i64,3),(.i .u8,64),(.i .i64,1),(.i .u8,96)] 13 14),jm 4 15] .ret)))⟩
theorem ok3:okF Tryz.prog 3 d3=true:=by kernel_rfl
def r8_3:Sch:=(.P 1 (jf 13 1 5) (.P 5 (jf 17 1 5) (.Q 0 (jl 12 33 true 3) (.Q 2 (jl 14 99 true 13) (.Q 3 (jc 15 10 [12,14]) (.Q 4 (jl 16 33 true 4) (.Q 6 (jl 18 99 true 17) (.Q 7 (jc 19 11 [16,18]) (.P 8 (jm 6 15) (.P 9 (jm 7 19) .nil))))))))))
def r8_5:Sch:=(.P 1 (jf 23 100 5) (.P 5 (jf 27 100 5) (.Q 0 (jl 22 33 true 3) (.Q 2 (jl 24 163 true 23) (.Q 3 (jc 25 29 [22,24]) (.Q 4 (jl 26 33 true 4) (.Q 6 (jl 28 163 true 27) (.Q 7 (jc 29 30 [26,28]) (.P 8 (jm 6 25) (.P 9 (jm 7 29) .nil))))))))))
def r8_7:Sch:=(.P 1 (jf 33 263 5) (.P 5 (jf 37 263 5) (.Q 0 (jl 32 33 true 3) (.Q 2 (jl 34 99 true 33) (.Q 3 (jc 35 31 [32,34]) (.Q 4 (jl 36 33 true 4) (.Q 6 (jl 38 99 true 37) (.Q 7 (jc 39 32 [36,38]) (.P 8 (jm 6 35) (.P 9 (jm 7 39) .nil))))))))))
def r8_9:Sch:=(.P 1 (jf 43 362 5) (.P 5 (jf 47 362 5) (.Q 0 (jl 42 33 true 3) (.Q 2 (jl 44 163 true 43) (.Q 3 (jc 45 33 [42,44]) (.Q 4 (jl 46 33 true 4) (.Q 6 (jl 48 163 true 47) (.Q 7 (jc 49 34 [46,48]) (.P 8 (jm 6 45) (.P 9 (jm 7 49) .nil))))))))))
def Z10b:Sch:=(.P 1 (jf 53 525 5) (.P 5 (jf 57 525 5) (.Q 0 (jl 52 33 true 3) (.Q 2 (jl 54 65 true 53) (.Q 3 (jc 55 35 [52,54]) (.Q 4 (jl 56 33 true 4) (.Q 6 (jl 58 65 true 57) (.Q 7 (jc 59 36 [56,58]) (.P 8 (jm 6 55) (.P 9 (jm 7 59) .nil))))))))))
def Z10c:Sch:=(.P 1 (jf 63 590 5) (.P 5 (jf 67 590 5) (.Q 0 (jl 62 33 true 3) (.Q 2 (jl 64 67 true 63) (.Q 3 (jc 65 37 [62,64]) (.Q 4 (jl 66 33 true 4) (.Q 6 (jl 68 67 true 67) (.Q 7 (jc 69 38 [66,68]) (.P 8 (jm 6 65) (.P 9 (jm 7 69) .nil))))))))))
def Z10d:Sch:=(.P 1 (jf 73 657 5) (.P 5 (jf 77 657 5) (.Q 0 (jl 72 33 true 3) (.Q 2 (jl 74 97 true 73) (.Q 3 (jc 75 39 [72,74]) (.Q 4 (jl 76 33 true 4) (.Q 6 (jl 78 97 true 77) (.Q 7 (jc 79 40 [76,78]) (.P 8 (jm 6 75) (.P 9 (jm 7 79) .nil))))))))))
def k8_0:IC:=(.sq [jb 11 .eql 9 (ci 1),jm 10 11] (.cond 10 (.seq (.draw r8_3 []) .ret) (.sq [jb 21 .eql 9 (ci 2),jm 20 21] (.cond 20 (.seq (.draw r8_5 []) .ret) (.sq [jb 31 .eql 9 (ci 3),jm 30 31] (.cond 30 (.seq (.draw r8_7 []) .ret) (.sq [jb 41 .eql 9 (ci 4),jm 40 41] (.cond 40 (.seq (.draw r8_9 []) .ret) (.sq [jb 51 .eql 9 (ci 5),jm 50 51] (.cond 50 (.seq (.draw Z10b []) .ret) (.sq [jb 61 .eql 9 (ci 6),jm 60 61] (.cond 60 (.seq (.draw Z10c []) .ret) (.sq [jb 71 .eql 9 (ci 7),jm 70 71] (.cond 70 (.seq (.draw Z10d []) .ret) .skip))))))))))))))
def d8:FnD:=⟨80,[.tmp 6,.tmp 7],(.sq [jx 3 47 0,jx 4 47 1,jx 5 40 2,jm 6 (.const (.bool false)),jm 7 (.const (.bool false))] (.seq (.sq [jf 8 0 5,jl 9 1 false 8] (.block 0 k8_0)) (.sq [jm 6 (.const (.bool false)),jm 7 (.const (.bool false))] .ret)))⟩
def r4_3:Sch:=(.P 0 (jm 20 6) (.P 1 (jm 21 7) (.P 2 (oj 22 (.beq true 20 21)) (.P 3 (jm 23 22) (.q [4,5,6,7,8] (.lg true 23 28 none [.op ⟨some 24,(some (23,false)),.ld 33 true 5⟩,.op ⟨some 25,(some (23,false)),.ld 33 true 2⟩,.op ⟨some 26,(some (23,false)),.call 9 [24,25]⟩,.op ⟨some 27,(some (23,false)),.un .not 26⟩] 27) (.P 9 (jm 29 28) (.q [10,11,12,13,14,15,16,17,18,19] (.lg true 29 39 none [.op ⟨some 30,(some (29,false)),.ld 33 true 5⟩,.op ⟨some 31,(some (29,false)),.fa 1 3⟩,.op ⟨some 32,(some (29,false)),.ld 99 true 31⟩,.op ⟨some 33,(some (29,false)),.call 10 [30,32]⟩,.op ⟨some 34,(some (29,false)),.ld 33 true 2⟩,.op ⟨some 35,(some (29,false)),.fa 1 3⟩,.op ⟨some 36,(some (29,false)),.ld 99 true 35⟩,.op ⟨some 37,(some (29,false)),.call 11 [34,36]⟩,.op ⟨some 38,(some (29,false)),.beq true 33 37⟩] 38) (.P 20 (jm 40 39) (.q [21,22,23,24,25] (.lg true 40 45 none [.op ⟨some 41,(some (40,false)),.ld 33 true 5⟩,.op ⟨some 42,(some (40,false)),.ld 33 true 2⟩,.op ⟨some 43,(some (40,false)),.call 9 [41,42]⟩,.op ⟨some 44,(some (40,false)),.un .not 43⟩] 44) .nil)))))))))
def d4:FnD:=⟨63,[.tmp 4],(.sq [jx 2 47 0,jx 3 40 1,jm 4 (.const (.bool false))] (.sq [jl 11 33 true 2,jc 12 7 [11],ja 5 47 [.ints .u8 32 (replicate 32 0),.one (.slice none 0 0)],js' 33 5 12] (.sq [jl 14 33 true 5,jl 15 33 true 2,jl 16 754 true 3,jc 17 8 [14,15,16],jm 13 17,je 18 13 0,je 19 13 1,jm 6 18,jm 7 19] (.seq (.seq (.draw r4_3 []) (.cond 45 (.sq [jm 4 (.const (.bool false))] .ret) .skip)) (.sq [jl 46 33 true 5,jc 47 12 [46],ja 8 47 [.ints .u8 32 (replicate 32 0),.one (.slice none 0 0)],js' 33 8 47] (.sq [jl 49 33 true 5,jl 50 33 true 8,jl 51 754 true 3,jc 52 8 [49,50,51],jm 48 52,je 53 48 0,je 54 48 1,jm 9 53,jm 10 54] (.sq [jm 55 9,jm 56 10,oj 57 (.beq false 55 56),jm 58 57,.lg false 58 62 none [.op ⟨some 59,(some (58,true)),.ld 33 true 5⟩,.op ⟨some 60,(some (58,true)),.ld 33 true 8⟩,.op ⟨some 61,(some (58,true)),.call 9 [59,60]⟩] 61,jm 4 62] .ret)))))))⟩
end Go.Proofs.YtkjfpenagcdmcaaGreatDoor
namespace Go.Proofs.YtkjfpenagcdmcaaGreatDoor
open Go Go.Sx Go.RowKit
set_option linter.all false
set_option maxHeartbeats 400000
set_option maxRecDepth 100000
theorem mo:Tryz.prog.follows .mixedOrders=true:=by kernel_rfl
theorem Zk7:ExtF Tryz.prog 387 add64Entry:=⟨Tryz.f387,Tryz.func387,by kernel_rfl,by kernel_rfl,by kernel_rfl,by kernel_rfl⟩
theorem Z0as:ExtF Tryz.prog 388 Zjj:=⟨Tryz.f388,Tryz.func388,by kernel_rfl,by kernel_rfl,by kernel_rfl,by kernel_rfl⟩
end Go.Proofs.YtkjfpenagcdmcaaGreatDoor
namespace Go.Proofs.YtkjfpenagcdmcaaGreatDoor
open Go Go.Sx Go.RowKit
open Go.IntKind (wrap)
set_option linter.all false
set_option maxHeartbeats 400000
set_option maxRecDepth 100000
def ng:Nat:=7
def G_rfirst:LI:=[7640891576956012808,13503953896175478587,4354685564936845355,11912009170470909681,5840696475078001361,11170449401992604703,2270897969802886507,6620516959819538809]
def G_order:LI:=[6346243789798364141,1503914060200516822,0,1152921504606846976]
def G_rtable:LI:=[4794697086780616226,8158064640168781261,13096744586834688815,16840607885511220156,4131703408338449720,6480981068601479193,10538285296894168987,12329834152419229976,15566598209576043074,1334009975649890238,2608012711638119052,6128411473006802146,8268148722764581231,9286055187155687089,11230858885718282805,13951009754708518548,16472876342353939154,17275323862435702243,1135362057144423861,2597628984639134821,3308224258029322869,5365058923640841347,6679025012923562964,8573033837759648693,10970295158949994411,12119686244451234320,12683024718118986047,13788192230050041572,14330467153632333762,15395433587784984357,489312712824947311,1452737877330783856,2861767655752347644,3322285676063803686,5560940570517711597,5996557281743188959,7280758554555802590,8532644243296465576,9350256976987008742,10552545826968843579,11727347734174303076,12113106623233404929,14000437183269869457,14369950271660146224,15101387698204529176,15463397548674623760,17586052441742319658,1182934255886127544,1847814050463011016,2177327727835720531,2830643537854262169,3796741975233480872,4115178125766777443,5681478168544905931,6601373596472566643,7507060721942968483,8399075790359081724,8693463985226723168,9568029438360202098,10144078919501101548,10430055236837252648,11840083180663258601,13761210420658862357,14299343276471374635,14566680578165727644,15097957966210449927,16922976911328602910,17689382322260857208,500013540394364858,748580250866718886,1242879168328830382,1977374033974150939,2944078676154940804,3659926193048069267,4368137639120453308,4836135668995329356,5532061633213252278,6448918945643986474,6902733635092675308,7801388544844847127]
def G_first:LI:=[7640891576956012808,13503953896175478587,4354685564936845355,11912009170470909681,5840696475078001361,11170449401992604703,2270897969802886507,6620516959819538809]
def G_table:LI:=[4794697086780616226,8158064640168781261,13096744586834688815,16840607885511220156,4131703408338449720,6480981068601479193,10538285296894168987,12329834152419229976,15566598209576043074,1334009975649890238,2608012711638119052,6128411473006802146,8268148722764581231,9286055187155687089,11230858885718282805,13951009754708518548,16472876342353939154,17275323862435702243,1135362057144423861,2597628984639134821,3308224258029322869,5365058923640841347,6679025012923562964,8573033837759648693,10970295158949994411,12119686244451234320,12683024718118986047,13788192230050041572,14330467153632333762,15395433587784984357,489312712824947311,1452737877330783856,2861767655752347644,3322285676063803686,5560940570517711597,5996557281743188959,7280758554555802590,8532644243296465576,9350256976987008742,10552545826968843579,11727347734174303076,12113106623233404929,14000437183269869457,14369950271660146224,15101387698204529176,15463397548674623760,17586052441742319658,1182934255886127544,1847814050463011016,2177327727835720531,2830643537854262169,3796741975233480872,4115178125766777443,5681478168544905931,6601373596472566643,7507060721942968483,8399075790359081724,8693463985226723168,9568029438360202098,10144078919501101548,10430055236837252648,11840083180663258601,13761210420658862357,14299343276471374635,14566680578165727644,15097957966210449927,16922976911328602910,17689382322260857208,500013540394364858,748580250866718886,1242879168328830382,1977374033974150939,2944078676154940804,3659926193048069267,4368137639120453308,4836135668995329356,5532061633213252278,6448918945643986474,6902733635092675308,7801388544844847127]
structure Globs (W:World):Prop where
  g0:Mem W 0 0 [.ints .u64 8 G_rfirst]
  g1:Mem W 1 0 [.ints .u64 4 G_order]
  g2:Mem W 2 0 [.ints .u64 80 G_rtable]
  g4:Mem W 4 0 [.ints .u64 8 G_first]
  g6:Mem W 6 0 [.ints .u64 80 G_table]
theorem Globs.at {C:Cfg} {m:List Zd} {w:World} (h:Globs C.W0) (hw:Sat C.W0 C.S m w) (hS : ∀ g,g<ng->g∉C.S):Globs w:=⟨Z7d h.g0 (hS 0 (by decide)) hw,Z7d h.g1 (hS 1 (by decide)) hw,Z7d h.g2 (hS 2 (by decide)) hw,Z7d h.g4 (hS 4 (by decide)) hw,Z7d h.g6 (hS 6 (by decide)) hw⟩
theorem Globs.ap {C:Cfg} {m:List Zd} {w:World} {b:Nat} {o:Obj} (h:Globs C.W0) (hS : ∀ g,g<ng->g∉C.S) (hb:Has b o m) (hw:Sat C.W0 C.S m w) : ∀ g,g<ng->g ∉ [b]:=by
  intro g hg hm
  simp only [List.mem_singleton] at hm
  subst hm
  rcases hw.base _ hb.mem with h1 | h1
  · have h2:=h.g6.lt
    have h3:ng=7:=rfl
    simp only at h1
    omega
  · exact hS _ hg h1
structure Z07 where
  gbytes:LI
  gfault:Int
def Zau:Option (Z07) :=
 some (⟨[],0⟩:Z07)
theorem Zko {W:World} {r:Z07} (h:Zau=some r)  :
    Calls Tryz.prog 307 [].toArray W (Z67 W [] (fun v Ms=>∃ (b1:Nat) (T0:TypeId) (u0:Value) (M1:List Zd),v = pt' b1/\Ms = [.one (ck b1 T0 [.one (u0),.i r.gfault]),.all M1]/\Z0c (El.int .u8) u0 M1 r.gbytes)):=by
 unfold Zau at h
 refine Zj mo Z0w7 rfl (Zbz _) ?_
 refine Z0<|Z1<|Z7 rfl<|Z2<|Z0<|Z1<|Zq _ (Zex (q:=[.one (.slice none 0 0),.i 0]) BdR.nil)<|Za (Z02 (s:=[.one (.slice none 0 0),.i 0]) rfl fun b2 hb1=>Z7 rfl<|Z2<|Zf ?_)
 cases h
 exact ⟨_,_,(.cons (.tmp rfl) .nil),(.o (.no .nil)),⟨_,rfl,⟨b2,471,(.slice none 0 0),[],rfl,rfl,Z3y⟩⟩⟩
def Z35 (p0:Z07) (p1:LI):Option (Z07) :=
 br ((p0.gfault==0)) (
 chk (decide ((p0.gbytes.length+p1.length)*1<=140737488355328)) <|
 bnd (p0.gbytes++p1) fun l1 =>
 some (⟨l1,p0.gfault⟩:Z07)
 ) (
 some p0
 )
theorem Z8d {W:World} {r:Z07} {p0:Z07} {p1:LI} {v0:Value} {M1:List Zd} {v1:Value} {b:Nat} {T:TypeId} (h:Z35 p0 p1=some r) (h0:Sat W (b::M1.map (·.b)) (ck b T [.one (v0),.i p0.gfault]::(M1 ++ [])) W) (O1:Z0c (El.int .u8) v0 M1 p0.gbytes) (A1:Z6r (El.int .u8) W v1 p1/\Za8 v1 p1 (b::M1.map (·.b))) :
    Calls Tryz.prog 405 [.pointer (some ⟨b,0,none⟩),v1].toArray W (Z67 W (b::M1.map (·.b)) (fun v Ms=>∃ (uw:Value) (Mw:List Zd),v = .tuple #[]/\Ms = [.one (ck b T [.one (uw),.i r.gfault]),.all Mw]/\Z0c (El.int .u8) uw Mw r.gbytes)):=by
 unfold Z35 at h
 refine Zj mo Z0ya rfl h0 ?_
 refine Z0<|Z1<|Z7 rfl<|Zq _ (Z28 rfl)<|Z4c rfl<|Zky rfl .here rfl<|j_c rfl<|Z2<|Z0k h rfl (fun h=>?_) (fun h=>?_)
 ·refine cH h fun c1 h=>bH h fun l1 g1 h=>Z1<|Z7 rfl<|Z7 rfl<|Zq _ (Z28 rfl)<|Z4c rfl<|Zky rfl .here rfl<|Z7 rfl<|Za (Z3i (E:=(El.int .u8)) g1 rfl O1 .t1 rfl (Z1n A1.1 A1.2) c1 fun v6 w1 O2=>Zq _ (Z28 rfl)<|Z4c rfl<|Za (Zra (q:=[.one (v6),.i p0.gfault]) rfl rfl (Zjk.one1 (Z0c.isSl O2)) rfl (.app .here)<|Z2 ?_))
  cases h
  exact ⟨_,_,.nil,(.one (.app .here) (.all .here .nil)),⟨_,rfl,⟨v6,w1,rfl,rfl,O2⟩⟩⟩
 ·refine Zp ?_
  cases h
  exact ⟨_,_,.nil,(.o (.all .here .nil)),⟨_,rfl,⟨v0,M1,rfl,rfl,O1⟩⟩⟩
def Z2t (p0:Z07) (p1:LI):Option (Z07) :=
 opt (Z35 p0 p1) fun y1 =>
 some y1
theorem Za7 {W:World} {r:Z07} {p0:Z07} {p1:LI} {v0:Value} {M1:List Zd} {v1:Value} {b:Nat} {T:TypeId} (h:Z2t p0 p1=some r) (h0:Sat W (b::M1.map (·.b)) (ck b T [.one (v0),.i p0.gfault]::(M1 ++ [])) W) (O1:Z0c (El.int .u8) v0 M1 p0.gbytes) (A1:Z6r (El.int .u8) W v1 p1/\Za8 v1 p1 (b::M1.map (·.b))) :
    Calls Tryz.prog 298 [.pointer (some ⟨b,0,none⟩),v1].toArray W (Z67 W (b::M1.map (·.b)) (fun v Ms=>∃ (uw:Value) (Mw:List Zd),v = .tuple #[]/\Ms = [.one (ck b T [.one (uw),.i r.gfault]),.all Mw]/\Z0c (El.int .u8) uw Mw r.gbytes)):=by
 unfold Z2t at h
 refine Zj mo Z0w6 rfl h0 ?_
 refine oH h fun y1 f1 h=>Z1<|Z7 rfl<|Z7 rfl<|Za (Z0j (mS:=_::M1) rfl (Z1f .here .here) (fun w hw=>Z8d  f1 (Z0w hw (Z1f .here .here)) O1 ⟨(Z1n A1.1 A1.2) w hw,(Zh2 (Zr4 (E:=(El.int .u8)) A1.1 A1.2 .here hw) (Zr5 (E:=(El.int .u8)) A1.1 A1.2 .t1 hw))⟩) fun v3 o1 R1=>?_)
 obtain ⟨v5,w1,rfl,rfl,O2⟩:=R1
 refine Z2 ?_
 cases h
 exact ⟨_,_,.nil,(.o (.all .here .nil)),⟨_,rfl,⟨v5,w1,rfl,rfl,O2⟩⟩⟩
def Z89 (k1:Int->Option Int) (k2:Int->Int->Option Int) (i1:Int) (i2:Int):Option Int :=
 br ((i2 != 0)) (
 bnd (wrap .i64 (i1+1)) fun z1 =>
 bnd (Zx .u32 i2 1) fun z2 =>
 k2 z1 z2
 ) (
 k1 i1
 )
def Z4d (k1:Int->Option Int):Nat->Int->Int->Option Int
  | 0,_,_=>none
  | n+1,i1,i2=>Z89 k1 (Z4d k1 n) i1 i2
def Za9:Option Int :=
 bnd (Z4 .xor .u32 4294967295 0) fun z1 =>
 jn (fun (i1:Int)=>some i1) fun k1=>Z4d k1 big 0 z1
theorem Zha {W:World} {r:Int} (h:Za9=some r)  :
    Calls Tryz.prog 416 [].toArray W (Z1w W (.int .i64 (r))):=by
 unfold Za9 at h
 refine Z9 mo Z0yb rfl ?_
 refine Z0<|Z1<|Z7 rfl<|Z2<|Z0<|Z1<|Z7 rfl<|Z2<|Z0<|Z0<|bH h fun z1 e1 h=>Z1<|Zq _ (Zpo rfl)<|Zq _ (iz e1 (Zuu rfl rfl))<|Z7 rfl<|Z2<|jH h fun k1 q1 h=>Zo (G:=fun t m=>∃ (i1:Int),k1 i1=some r/\Fit [(1,.int .i64 (i1))] [] t m) ?_ ?_
 ·refine Zb<|Zz (fun n1 t m=>∃ (i2:Int) (i3:Int),Z4d k1 n1 i2 i3=some r/\Fit [(1,.int .i64 (i2)),(2,.int .u32 (i3))] [] t m) big ?_ ?_
  ·exact ⟨0,z1,h,⟨⟨rfl,rfl,trivial⟩,.nil⟩⟩
  ·rintro n1 t m ⟨i2,i3,h,hF⟩
   refine Zi hF ?_
   clear hF
   rcases n1 with _ | n1
   · exact Z0s h
   have h:Z89 k1 (Z4d k1 n1) i2 i3=some r:=h
   unfold Z89 at h
   obtain ⟨k2,q2⟩ : ∃ k,k=Z4d k1 n1:=⟨_,rfl⟩
   try rw [<- q2] at h
   refine Z0<|Z0<|Z1<|Z7 rfl<|j_c rfl<|Z2<|Z0k h rfl (fun h=>?_) (fun h=>?_)
   ·refine Zp<|Z0<|Zb<|bH h fun z2 e2 h=>Z1<|Z7 rfl<|j_b e2 rfl<|Z7 rfl<|Z2<|bH h fun z3 e3 h=>Z1<|Z7 rfl<|Zq _ (iz e3 (Z61 rfl rfl (by decide)))<|Z7 rfl<|Z2 ?_
    rw [q2] at h
    exact ⟨n1,Nat.lt_succ_self _,z2,z3,h,⟨⟨rfl,rfl,trivial⟩,.nil⟩⟩
   ·exact Z08 _ rfl<|⟨i2,h,⟨⟨rfl,trivial⟩,.nil⟩⟩
 ·rintro t m ⟨i1,h,hF⟩
  refine Zi hF ?_
  clear hF
  subst q1
  refine Z0<|Z1<|Z7 rfl<|Z7 rfl<|Z2<|Zf ?_
  cases h
  exact ⟨_,(.cons (.tmp rfl) .nil),rfl⟩
def Z6w (k1:(LI)->OL) (k2:Int->(LI)->Int->OL) (i1:Int) (l1:LI) (i2:Int):OL :=
 br ((decide (i2≥0))) (
 bnd (wrap .u8 i1) fun z1 =>
 chk (inB i2 l1.length) <|
 bnd (Zh7 0 l1 (i2).toNat z1) fun l2 =>
 bnd (Zx .u32 i1 8) fun z2 =>
 bnd (wrap .i64 (i2-1)) fun z3 =>
 k2 z2 l2 z3
 ) (
 k1 l1
 )
def Z3b (k1:(LI)->OL):Nat->Int->(LI)->Int->OL
  | 0,_,_,_=>none
  | n+1,i1,l1,i2=>Z6w k1 (Z3b k1 n) i1 l1 i2
def Z6d (p0:Int):OL :=
 opt (Za9) fun y1 =>
 bnd (wrap .i64 (Int.tdiv y1 8)) fun z1 =>
 chk (mkB 1 z1 z1) <|
 bnd (wrap .i64 (((List.replicate (z1).toNat 0:LI).length:Int)-1)) fun z2 =>
 jn (fun (l1:LI)=>some l1) fun k1=>Z3b k1 big p0 (List.replicate (z1).toNat 0:LI) z2
theorem Zf6 {W:World} {r:(LI)} {p0:Int} (h:Z6d p0=some r)  :
    Calls Tryz.prog 312 [.int .u32 (p0)].toArray W (Z67 W [] (fun v Ms=>∃ (u0:Value) (M1:List Zd),v=u0/\Ms = [.all M1]/\Z0c (El.int .u8) u0 M1 r)):=by
 unfold Z6d at h
 refine Zj mo Z0wa rfl (Zbz _) ?_
 refine Z0<|Z1<|Z7 rfl<|Z2<|Z0<|oH h fun y1 f1 h=>bH h fun z1 e1 h=>cH h fun c1 h=>Z1<|Z2o rfl (Zha f1)<|Zq _ (iz e1 (Zbl rfl rfl (by decide)))<|Za (Zk6 (E:=(El.int .u8)) rfl rfl rfl c1 fun v6 w1 O1=>Z7 rfl<|Z2<|Z0<|Z0<|bH h fun z2 e2 h=>Z1<|Z7 rfl<|Zq _ (Z40 rfl (Shp.own O1))<|j_b e2 rfl<|Z7 rfl<|Z2<|jH h fun k1 q1 h=>Zo (G:=fun t m=>∃ (l1:LI) (v61:Value) (w2:List Zd),k1 l1=some r/\Z0c (El.int .u8) v61 w2 l1/\Fit [(3,v61)] (w2 ++ []) t m) ?_ ?_)
 ·refine Zb<|Zz (fun n1 t m=>∃ (i1:Int) (l2:LI) (i2:Int) (v97:Value) (w3:List Zd),Z3b k1 n1 i1 l2 i2=some r/\Z0c (El.int .u8) v97 w3 l2/\Fit [(0,.int .u32 (i1)),(3,v97),(4,.int .i64 (i2))] (w3 ++ []) t m) big ?_ ?_
  ·exact ⟨p0,(List.replicate (z1).toNat 0:LI),z2,v6,w1,h,O1,⟨⟨rfl,rfl,rfl,trivial⟩,(.all .here .nil)⟩⟩
  ·rintro n1 t m ⟨i1,l2,i2,v97,w3,h,O2,hF⟩
   refine Zi hF ?_
   clear hF
   rcases n1 with _ | n1
   · exact Z0s h
   have h:Z6w k1 (Z3b k1 n1) i1 l2 i2=some r:=h
   unfold Z6w at h
   obtain ⟨k2,q2⟩ : ∃ k,k=Z3b k1 n1:=⟨_,rfl⟩
   try rw [<- q2] at h
   refine Z0<|Z0<|Z1<|Z7 rfl<|j_c rfl<|Z2<|Z0k h rfl (fun h=>?_) (fun h=>?_)
   ·refine Zp<|Z0<|Zb<|Z0<|bH h fun z3 e3 h=>cH h fun c2 h=>bH h fun l3 g1 h=>Z1<|Z7 rfl<|Z7 rfl<|Z7 rfl<|j_v e3 rfl<|Zq _ (Z48 rfl rfl (Shp.own O2) c2)<|Za (Zmu (E:=(El.int .u8)) g1 O2 .here rfl rfl rfl (Z0g c2) fun w4 O3=>Z2<|bH h fun z4 e4 h=>Z1<|Z7 rfl<|Zq _ (iz e4 (Z61 rfl rfl (by decide)))<|Z7 rfl<|Z2<|bH h fun z5 e5 h=>Z1<|Z7 rfl<|j_b e5 rfl<|Z7 rfl<|Z2 ?_)
    rw [q2] at h
    exact ⟨n1,Nat.lt_succ_self _,z4,l3,z5,v97,w4,h,O3,⟨⟨rfl,rfl,rfl,trivial⟩,(.all .here .nil)⟩⟩
   ·exact Z08 _ rfl<|⟨l2,v97,w3,h,O2,⟨⟨rfl,trivial⟩,(.all .here .nil)⟩⟩
 ·rintro t m ⟨l1,v61,w2,h,O4,hF⟩
  refine Zi hF ?_
  clear hF
  subst q1
  refine Z0<|Z1<|Z7 rfl<|Z7 rfl<|Z2<|Zf ?_
  cases h
  exact ⟨_,_,(.cons (.tmp rfl) .nil),(.all .here .nil),⟨_,rfl,⟨v61,w2,rfl,rfl,O4⟩⟩⟩
def Z64 (p0:Z07) (p1:Int):Option (Z07) :=
 opt (Z6d p1) fun y1 =>
 opt (Z35 p0 y1) fun y2 =>
 some y2
theorem Zjr {W:World} {r:Z07} {p0:Z07} {p1:Int} {v0:Value} {M1:List Zd} {b:Nat} {T:TypeId} (h:Z64 p0 p1=some r) (h0:Sat W (b::M1.map (·.b)) (ck b T [.one (v0),.i p0.gfault]::(M1 ++ [])) W) (O1:Z0c (El.int .u8) v0 M1 p0.gbytes) :
    Calls Tryz.prog 293 [.pointer (some ⟨b,0,none⟩),.int .u32 (p1)].toArray W (Z67 W (b::M1.map (·.b)) (fun v Ms=>∃ (uw:Value) (Mw:List Zd),v = .tuple #[]/\Ms = [.one (ck b T [.one (uw),.i r.gfault]),.all Mw]/\Z0c (El.int .u8) uw Mw r.gbytes)):=by
 unfold Z64 at h
 refine Zj mo Z0w5 rfl h0 ?_
 refine oH h fun y1 f1 h=>oH h fun y2 f2 h=>Z1<|Z7 rfl<|Z7 rfl<|Za (Zg rfl (fun w hw=>Zf6  f1 ) fun v3 o1 R1=>?_)
 obtain ⟨_,w1,rfl,rfl,O2⟩:=R1
 refine Za (Z0j (mS:=_::M1) rfl (Z1f (.app .here) (.app .here)) (fun w hw=>Z8d  f2 (Z0w hw (Z1f (.app .here) (.app .here))) O1 ⟨(Z0l O2 .here) w hw,(Zh2 (Zcw (E:=(El.int .u8)) O2 .here .here hw) (Zf5 (E:=(El.int .u8)) O2 .here .t1 hw))⟩) fun v9 o2 R2=>?_)
 obtain ⟨v11,w2,rfl,rfl,O3⟩:=R2
 refine Z2 ?_
 cases h
 exact ⟨_,_,.nil,(.o (.all .here .nil)),⟨_,rfl,⟨v11,w2,rfl,rfl,O3⟩⟩⟩
def Z8a (k1:Int->Option Int) (k2:Int->Int->Option Int) (i1:Int) (i2:Int):Option Int :=
 br ((i2 != 0)) (
 bnd (wrap .i64 (i1+1)) fun z1 =>
 bnd (Zx .u64 i2 1) fun z2 =>
 k2 z1 z2
 ) (
 k1 i1
 )
def Z4e (k1:Int->Option Int):Nat->Int->Int->Option Int
  | 0,_,_=>none
  | n+1,i1,i2=>Z8a k1 (Z4e k1 n) i1 i2
def Z3h:Option Int :=
 bnd (Z4 .xor .u64 18446744073709551615 0) fun z1 =>
 jn (fun (i1:Int)=>some i1) fun k1=>Z4e k1 big 0 z1
theorem Z52 {W:World} {r:Int} (h:Z3h=some r)  :
    Calls Tryz.prog 475 [].toArray W (Z1w W (.int .i64 (r))):=by
 unfold Z3h at h
 refine Z9 mo Z0z9 rfl ?_
 refine Z0<|Z1<|Z7 rfl<|Z2<|Z0<|Z1<|Z7 rfl<|Z2<|Z0<|Z0<|bH h fun z1 e1 h=>Z1<|Zq _ (Zpo rfl)<|Zq _ (iz e1 (Zuu rfl rfl))<|Z7 rfl<|Z2<|jH h fun k1 q1 h=>Zo (G:=fun t m=>∃ (i1:Int),k1 i1=some r/\Fit [(1,.int .i64 (i1))] [] t m) ?_ ?_
 ·refine Zb<|Zz (fun n1 t m=>∃ (i2:Int) (i3:Int),Z4e k1 n1 i2 i3=some r/\Fit [(1,.int .i64 (i2)),(2,.int .u64 (i3))] [] t m) big ?_ ?_
  ·exact ⟨0,z1,h,⟨⟨rfl,rfl,trivial⟩,.nil⟩⟩
  ·rintro n1 t m ⟨i2,i3,h,hF⟩
   refine Zi hF ?_
   clear hF
   rcases n1 with _ | n1
   · exact Z0s h
   have h:Z8a k1 (Z4e k1 n1) i2 i3=some r:=h
   unfold Z8a at h
   obtain ⟨k2,q2⟩ : ∃ k,k=Z4e k1 n1:=⟨_,rfl⟩
   try rw [<- q2] at h
   refine Z0<|Z0<|Z1<|Z7 rfl<|j_c rfl<|Z2<|Z0k h rfl (fun h=>?_) (fun h=>?_)
   ·refine Zp<|Z0<|Zb<|bH h fun z2 e2 h=>Z1<|Z7 rfl<|j_b e2 rfl<|Z7 rfl<|Z2<|bH h fun z3 e3 h=>Z1<|Z7 rfl<|Zq _ (iz e3 (Z61 rfl rfl (by decide)))<|Z7 rfl<|Z2 ?_
    rw [q2] at h
    exact ⟨n1,Nat.lt_succ_self _,z2,z3,h,⟨⟨rfl,rfl,trivial⟩,.nil⟩⟩
   ·exact Z08 _ rfl<|⟨i2,h,⟨⟨rfl,trivial⟩,.nil⟩⟩
 ·rintro t m ⟨i1,h,hF⟩
  refine Zi hF ?_
  clear hF
  subst q1
  refine Z0<|Z1<|Z7 rfl<|Z7 rfl<|Z2<|Zf ?_
  cases h
  exact ⟨_,(.cons (.tmp rfl) .nil),rfl⟩
def Z6x (k1:(LI)->OL) (k2:Int->(LI)->Int->OL) (i1:Int) (l1:LI) (i2:Int):OL :=
 br ((decide (i2≥0))) (
 bnd (wrap .u8 i1) fun z1 =>
 chk (inB i2 l1.length) <|
 bnd (Zh7 0 l1 (i2).toNat z1) fun l2 =>
 bnd (Zx .u64 i1 8) fun z2 =>
 bnd (wrap .i64 (i2-1)) fun z3 =>
 k2 z2 l2 z3
 ) (
 k1 l1
 )
def Z3c (k1:(LI)->OL):Nat->Int->(LI)->Int->OL
  | 0,_,_,_=>none
  | n+1,i1,l1,i2=>Z6x k1 (Z3c k1 n) i1 l1 i2
def Z2m (p0:Int):OL :=
 opt (Z3h) fun y1 =>
 bnd (wrap .i64 (Int.tdiv y1 8)) fun z1 =>
 chk (mkB 1 z1 z1) <|
 bnd (wrap .i64 (((List.replicate (z1).toNat 0:LI).length:Int)-1)) fun z2 =>
 jn (fun (l1:LI)=>some l1) fun k1=>Z3c k1 big p0 (List.replicate (z1).toNat 0:LI) z2
theorem Z45 {W:World} {r:(LI)} {p0:Int} (h:Z2m p0=some r)  :
    Calls Tryz.prog 395 [.int .u64 (p0)].toArray W (Z67 W [] (fun v Ms=>∃ (u0:Value) (M1:List Zd),v=u0/\Ms = [.all M1]/\Z0c (El.int .u8) u0 M1 r)):=by
 unfold Z2m at h
 refine Zj mo Z0y0 rfl (Zbz _) ?_
 refine Z0<|Z1<|Z7 rfl<|Z2<|Z0<|oH h fun y1 f1 h=>bH h fun z1 e1 h=>cH h fun c1 h=>Z1<|Z2o rfl (Z52 f1)<|Zq _ (iz e1 (Zbl rfl rfl (by decide)))<|Za (Zk6 (E:=(El.int .u8)) rfl rfl rfl c1 fun v6 w1 O1=>Z7 rfl<|Z2<|Z0<|Z0<|bH h fun z2 e2 h=>Z1<|Z7 rfl<|Zq _ (Z40 rfl (Shp.own O1))<|j_b e2 rfl<|Z7 rfl<|Z2<|jH h fun k1 q1 h=>Zo (G:=fun t m=>∃ (l1:LI) (v61:Value) (w2:List Zd),k1 l1=some r/\Z0c (El.int .u8) v61 w2 l1/\Fit [(3,v61)] (w2 ++ []) t m) ?_ ?_)
 ·refine Zb<|Zz (fun n1 t m=>∃ (i1:Int) (l2:LI) (i2:Int) (v97:Value) (w3:List Zd),Z3c k1 n1 i1 l2 i2=some r/\Z0c (El.int .u8) v97 w3 l2/\Fit [(0,.int .u64 (i1)),(3,v97),(4,.int .i64 (i2))] (w3 ++ []) t m) big ?_ ?_
  ·exact ⟨p0,(List.replicate (z1).toNat 0:LI),z2,v6,w1,h,O1,⟨⟨rfl,rfl,rfl,trivial⟩,(.all .here .nil)⟩⟩
  ·rintro n1 t m ⟨i1,l2,i2,v97,w3,h,O2,hF⟩
   refine Zi hF ?_
   clear hF
   rcases n1 with _ | n1
   · exact Z0s h
   have h:Z6x k1 (Z3c k1 n1) i1 l2 i2=some r:=h
   unfold Z6x at h
   obtain ⟨k2,q2⟩ : ∃ k,k=Z3c k1 n1:=⟨_,rfl⟩
   try rw [<- q2] at h
   refine Z0<|Z0<|Z1<|Z7 rfl<|j_c rfl<|Z2<|Z0k h rfl (fun h=>?_) (fun h=>?_)
   ·refine Zp<|Z0<|Zb<|Z0<|bH h fun z3 e3 h=>cH h fun c2 h=>bH h fun l3 g1 h=>Z1<|Z7 rfl<|Z7 rfl<|Z7 rfl<|j_v e3 rfl<|Zq _ (Z48 rfl rfl (Shp.own O2) c2)<|Za (Zmu (E:=(El.int .u8)) g1 O2 .here rfl rfl rfl (Z0g c2) fun w4 O3=>Z2<|bH h fun z4 e4 h=>Z1<|Z7 rfl<|Zq _ (iz e4 (Z61 rfl rfl (by decide)))<|Z7 rfl<|Z2<|bH h fun z5 e5 h=>Z1<|Z7 rfl<|j_b e5 rfl<|Z7 rfl<|Z2 ?_)
    rw [q2] at h
    exact ⟨n1,Nat.lt_succ_self _,z4,l3,z5,v97,w4,h,O3,⟨⟨rfl,rfl,rfl,trivial⟩,(.all .here .nil)⟩⟩
   ·exact Z08 _ rfl<|⟨l2,v97,w3,h,O2,⟨⟨rfl,trivial⟩,(.all .here .nil)⟩⟩
 ·rintro t m ⟨l1,v61,w2,h,O4,hF⟩
  refine Zi hF ?_
  clear hF
  subst q1
  refine Z0<|Z1<|Z7 rfl<|Z7 rfl<|Z2<|Zf ?_
  cases h
  exact ⟨_,_,(.cons (.tmp rfl) .nil),(.all .here .nil),⟨_,rfl,⟨v61,w2,rfl,rfl,O4⟩⟩⟩
def Z65 (p0:Z07) (p1:Int):Option (Z07) :=
 opt (Z2m p1) fun y1 =>
 opt (Z35 p0 y1) fun y2 =>
 some y2
theorem Zjs {W:World} {r:Z07} {p0:Z07} {p1:Int} {v0:Value} {M1:List Zd} {b:Nat} {T:TypeId} (h:Z65 p0 p1=some r) (h0:Sat W (b::M1.map (·.b)) (ck b T [.one (v0),.i p0.gfault]::(M1 ++ [])) W) (O1:Z0c (El.int .u8) v0 M1 p0.gbytes) :
    Calls Tryz.prog 372 [.pointer (some ⟨b,0,none⟩),.int .u64 (p1)].toArray W (Z67 W (b::M1.map (·.b)) (fun v Ms=>∃ (uw:Value) (Mw:List Zd),v = .tuple #[]/\Ms = [.one (ck b T [.one (uw),.i r.gfault]),.all Mw]/\Z0c (El.int .u8) uw Mw r.gbytes)):=by
 unfold Z65 at h
 refine Zj mo Z0xm rfl h0 ?_
 refine oH h fun y1 f1 h=>oH h fun y2 f2 h=>Z1<|Z7 rfl<|Z7 rfl<|Za (Zg rfl (fun w hw=>Z45  f1 ) fun v3 o1 R1=>?_)
 obtain ⟨_,w1,rfl,rfl,O2⟩:=R1
 refine Za (Z0j (mS:=_::M1) rfl (Z1f (.app .here) (.app .here)) (fun w hw=>Z8d  f2 (Z0w hw (Z1f (.app .here) (.app .here))) O1 ⟨(Z0l O2 .here) w hw,(Zh2 (Zcw (E:=(El.int .u8)) O2 .here .here hw) (Zf5 (E:=(El.int .u8)) O2 .here .t1 hw))⟩) fun v9 o2 R2=>?_)
 obtain ⟨v11,w2,rfl,rfl,O3⟩:=R2
 refine Z2 ?_
 cases h
 exact ⟨_,_,.nil,(.o (.all .here .nil)),⟨_,rfl,⟨v11,w2,rfl,rfl,O3⟩⟩⟩
def Znu (p0:Z07) (p1:Bool):Option (Z07) :=
 br (p1) (
 opt (Z35 p0 ([1]:LI)) fun y1 =>
 some y1
 ) (
 opt (Z35 p0 ([0]:LI)) fun y2 =>
 some y2
 )
def Z6q (p0:Z07):Option ((LI)×Int×Z07) :=
 br ((p0.gfault != 0)) (
 some ([],p0.gfault,p0)
 ) (
 chk (decide ((([]:LI).length+p0.gbytes.length)*1<=140737488355328)) <|
 bnd (([]:LI)++p0.gbytes) fun l1 =>
 some (l1,0,p0)
 )
theorem Zix {W:World} {r:(LI)×Int×Z07} {p0:Z07} {v0:Value} {M1:List Zd} {b:Nat} {T:TypeId} (h:Z6q p0=some r) (h0:Sat W (b::M1.map (·.b)) (ck b T [.one (v0),.i p0.gfault]::(M1 ++ [])) W) (O1:Z0c (El.int .u8) v0 M1 p0.gbytes) :
    Calls Tryz.prog 309 [.pointer (some ⟨b,0,none⟩)].toArray W (Z67 W (b::M1.map (·.b)) (fun v Ms=>∃ (u0:Value) (M1:List Zd) (uw:Value) (Mw:List Zd),v = .tuple #[u0,.int .i64 (r.2.1)]/\Ms = [.all M1,.one (ck b T [.one (uw),.i r.2.2.gfault]),.all Mw]/\Z0c (El.int .u8) u0 M1 r.1/\Z0c (El.int .u8) uw Mw r.2.2.gbytes)):=by
 unfold Z6q at h
 refine Zj mo Z0w9 rfl h0 ?_
 refine Z0<|Z1<|Z7 rfl<|Z7 rfl<|Z2<|Z0<|Z0<|Z1<|Z7 rfl<|Zq _ (Z28 rfl)<|Z4c rfl<|Zky rfl .here rfl<|j_c rfl<|Z2<|Z0k h rfl (fun h=>?_) (fun h=>?_)
 ·refine Z0<|Zv<|k_m rfl<|Z0x _ (Z28 rfl)<|Zdc rfl<|k_m rfl<|Z0v _ (Z86 rfl .here rfl)<|k_m rfl<|Z03<|Zf ?_
  cases h
  exact ⟨_,_,(.cons (.tmp rfl) (.cons (.tmp rfl) .nil)),(.no (.o (.all .here .nil))),⟨_,rfl,⟨(.slice none 0 0),[],v0,M1,rfl,rfl,Z3y,O1⟩⟩⟩
 ·refine Zp<|Z0<|cH h fun c1 h=>bH h fun l1 g1 h=>Z1<|Za (Z5q (E:=(El.int .u8)) (xs:=[]) BdR.nil .nil rfl fun v6 w1 O2=>Z7 rfl<|Zq _ (Z28 rfl)<|Z4c rfl<|Zky rfl (.app .here) rfl<|Za (Z3i (E:=(El.int .u8)) g1 rfl O2 .here rfl (Z0l O1 (.app .t1)) c1 fun v11 w2 O3=>Z7 rfl<|Z7 rfl<|Z2<|Zf ?_))
  cases h
  exact ⟨_,_,(.cons (.tmp rfl) (.cons (.tmp rfl) .nil)),(.all .here (.o (.all .here .nil))),⟨_,rfl,⟨v11,w2,v0,M1,rfl,rfl,O3,O1⟩⟩⟩
def Ziw (p0:Int):OL :=
 br (((decide (p0<1))||(decide (p0>255)))) (
 some []
 ) (
 bnd (wrap .u8 p0) fun z1 =>
 some ([70,66,1,z1]:LI)
 )
theorem Zqw {W:World} {r:(LI)} {p0:Int} (h:Ziw p0=some r)  :
    Calls Tryz.prog 308 [.int .i64 (p0)].toArray W (Z67 W [] (fun v Ms=>∃ (u0:Value) (M1:List Zd),v=u0/\Ms = [.all M1]/\Z0c (El.int .u8) u0 M1 r)):=by
 unfold Ziw at h
 refine Zj mo Z0w8 rfl (Zbz _) ?_
 refine Z0<|Z1<|Z7 rfl<|Z2<|Z0<|Z0<|Z1<|Z7 rfl<|j_c rfl<|Z7 rfl<|Z04s rfl rfl rfl (fun hg1=>Z8y rfl _ (Z5r rfl) (Z8y rfl _ (Zbk rfl rfl rfl) (Z8m))) (fun hg1=>rfl) rfl<|Z2<|Z0k h rfl (fun h=>?_) (fun h=>?_)
 ·refine Z0<|Z1<|Z7 rfl<|Z2<|Zf ?_
  cases h
  exact ⟨_,_,(.cons (.tmp rfl) .nil),(.no .nil),⟨_,rfl,⟨(.slice none 0 0),[],rfl,rfl,Z3y⟩⟩⟩
 ·refine Zp<|Z0<|bH h fun z1 e1 h=>Z1<|Z7 rfl<|j_v e1 rfl<|Za (Z5q (E:=(El.int .u8)) (xs:=[70,66,1,z1]) (.one rfl rfl rfl (.one rfl rfl rfl (.one rfl rfl rfl (.one rfl rfl rfl BdR.nil)))) (.cons (p:=[.one (.int .u8 (70))]) rfl (.cons (p:=[.one (.int .u8 (66))]) rfl (.cons (p:=[.one (.int .u8 (1))]) rfl (.cons (p:=[.one (.int .u8 (z1))]) rfl .nil)))) rfl fun v7 w1 O1=>Z7 rfl<|Z2<|Zf ?_)
  cases h
  exact ⟨_,_,(.cons (.tmp rfl) .nil),(.all .here .nil),⟨_,rfl,⟨v7,w1,rfl,rfl,O1⟩⟩⟩
structure Z09 where
  gSerial:Int
  gRides:Int
  gPrice:Int
  gAnchor:LI
  gSig:LI
abbrev Z6 (x:Z09) (r:List Seg):List Seg:=.i x.gSerial :: .i x.gRides :: .i x.gPrice :: b3' x.gAnchor :: b6' x.gSig::r
structure Z0e where
  gCert:Z09
  gSig:LI
structure Z0r where
  gSerial:Int
  gGate:Int
  gIndex:Int
  gValue:LI
  gSig:LI
abbrev Z0d (x:Z0r) (r:List Seg):List Seg:=.i x.gSerial :: .i x.gGate :: .i x.gIndex :: b3' x.gValue :: b6' x.gSig::r
structure Zs where
  gCert:Z09
  gSig:LI
structure Z0h where
  gFloor:Int
  gSig:LI
abbrev Z04 (x:Z0h) (r:List Seg):List Seg:=.i x.gFloor :: b6' x.gSig::r
structure Zw where
  gSerial:Int
  gRides:Int
  gAmount:Int
  gSig:LI
abbrev Zt (x:Zw) (r:List Seg):List Seg:=.i x.gSerial :: .i x.gRides :: .i x.gAmount :: b6' x.gSig::r
end Go.Proofs.YtkjfpenagcdmcaaGreatDoor
namespace Go.Proofs.YtkjfpenagcdmcaaGreatDoor
open Go Go.Sx Go.RowKit
open List (replicate)
open Go.IntKind (wrap)
set_option linter.all false
set_option maxHeartbeats 400000
set_option maxRecDepth 100000
structure Z0n where
  gSize:Int
  gRoot:LI
  gSig:LI
abbrev Z0a (x:Z0n) (r:List Seg):List Seg:=.i x.gSize :: b3' x.gRoot :: b6' x.gSig::r
def Zjd:Option (Unit) :=
 some ()
theorem Zpt {W:World} {r:Unit} (h:Zjd=some r)  :
    Calls Tryz.prog 42 [].toArray W (Z1w W (agg [.one (.func (.func 83) #[] #[]),.one (.func (.func 84) #[] #[]),.one (.func (.func 85) #[] #[]),.one (.func (.func 86) #[] #[])])):=by
 unfold Zjd at h
 refine Z9 mo ok42 rfl ?_
 refine Z0<|Z1<|Za (Zu fun b1 u1=>Z2<|Z0<|Z1<|Zq _ (Zex (q:=[.one (.func (.func 83) #[] #[]),.one (.func (.func 84) #[] #[]),.one (.func (.func 85) #[] #[]),.one (.func (.func 86) #[] #[])]) (.one rfl rfl rfl (.one rfl rfl rfl (.one rfl rfl rfl (.one rfl rfl rfl BdR.nil)))))<|Za (Zm (q:=[.one (.func (.func 83) #[] #[]),.one (.func (.func 84) #[] #[]),.one (.func (.func 85) #[] #[]),.one (.func (.func 86) #[] #[])]) rfl rfl rfl rfl rfl .here<|Z2<|Zf ?_))
 cases h
 exact ⟨_,(.cons (.agg rfl .here rfl) .nil),rfl⟩
structure Z00 where
  gstate:LI
  gheld:LI
  ghave:Int
  glength:Int
abbrev Z12 (x:Z00) (r:List Seg):List Seg:=u8' x.gstate :: .ints .u8 128 (x.gheld) :: .i x.ghave :: .one (.int .u64 (x.glength))::r
def Zcr:Option (Z00) :=
 some (⟨G_first,(replicate 128 0),0,0⟩:Z00)
theorem Ziq {W:World} {r:Z00} (h:Zcr=some r) (hG:Globs W) :
    Calls Tryz.prog 256 [].toArray W (Z67 W [] (fun v Ms=>∃ (b1:Nat) (T0:TypeId),v = pt' b1/\Ms = [.one (ck b1 T0 (Z12 r []))])):=by
 unfold Zcr at h
 refine Zj mo Z0v8 rfl (Zbz _) ?_
 refine Z0<|Z1<|Z7 rfl<|Z2<|Z0<|Z1<|Zq _ (Z004 (o0:=0) (off:=0) rfl (hG.g4) (by simp) rfl)<|Zq _ (Zex (q:=[u8' G_first,.ints .u8 128 ((replicate 128 0)),.i 0,.one (.int .u64 (0))]) (.agg (z':=[u8' G_first,.ints .u8 128 ((replicate 128 0)),.i 0,.one (.int .u64 (0))]) rfl (by kernel_rfl) (by kernel_rfl) BdR.nil))<|Za (Z02 (s:=[u8' G_first,.ints .u8 128 ((replicate 128 0)),.i 0,.one (.int .u64 (0))]) rfl fun b2 u1=>Z7 rfl<|Z2<|Zf ?_)
 cases h
 exact ⟨_,_,(.cons (.tmp rfl) .nil),(.o .nil),⟨_,rfl,⟨b2,452,rfl,rfl⟩⟩⟩
def Z4r (p0:LI) (p1:Int):Option ((Bool×LI)) :=
 opt (Z3h) fun y1 =>
 bnd (wrap .i64 (Int.tdiv y1 8)) fun z1 =>
 br (((decide (p1<0))||(decide (p1>wrap .i64 ((p0.length:Int)-z1))))) (
 some (true,[])
 ) (
 bnd (wrap .i64 (p1+z1)) fun z2 =>
 chk (Zqi p1 z2 p0.length) <|
 chk (decide (0<((p0.drop (p1).toNat).take ((z2).toNat-(p1).toNat)).length)) <|
 some (false,((p0.drop (p1).toNat).take ((z2).toNat-(p1).toNat)))
 )
theorem Za3 {W:World} {r:(Bool×LI)} {p0:LI} {p1:Int} {v0:Value} (h:Z4r p0 p1=some r) (A0:Z6r (El.int .u8) W v0 p0) :
    Calls Tryz.prog 469 [v0,.int .i64 (p1)].toArray W (Z67 W [] (fun v Ms=>∃ (u0:Value),v=u0/\Ms = []/\Shp u0 (r.2).length/\Z024 u0=r.1/\(∀ W,Z6r (El.int .u8) W v0 p0->Z6r (El.int .u8) W u0 r.2))):=by
 unfold Z4r at h
 refine Zj mo Z0z3 rfl (Zbz _) ?_
 refine Z0<|Z1<|Z7 rfl<|Z2<|Z0<|oH h fun y1 f1 h=>bH h fun z1 e1 h=>Z1<|Z2o rfl (Z52 f1)<|Zq _ (iz e1 (Zbl rfl rfl (by decide)))<|Z7 rfl<|Z2<|Z0<|Z0<|Z1<|Z7 rfl<|j_c rfl<|Z7 rfl<|Z04s rfl rfl rfl (fun hg1=>Z8y rfl _ (Z5r rfl) (Z8y rfl _ (Z5r rfl) (Z8y rfl _ (Z40 rfl (Shp.rd A0)) (Z8y rfl _ (Z5r rfl) (Z8y rfl _ (iz rfl (Zbk rfl rfl rfl)) (Z8y rfl _ (Zbk rfl rfl rfl) (Z8m))))))) (fun hg1=>rfl) rfl<|Z2<|Z0k h rfl (fun h=>?_) (fun h=>?_)
 ·refine Z0<|Z1<|Z7 rfl<|Z2<|Zf ?_
  cases h
  exact ⟨_,_,(.cons (.tmp rfl) .nil),.nil,⟨_,rfl,⟨(.slice none 0 0),rfl,rfl,Shp.nil,rfl,Z08b⟩⟩⟩
 ·refine Zp<|Z0<|bH h fun z2 e2 h=>cH h fun c1 h=>Z1<|Z7 rfl<|Z7 rfl<|Z7 rfl<|Z7 rfl<|j_b e2 rfl<|Zq _ (Zyk (lz:=p1) (hz:=z2) rfl (Shp.rd A0) (.yes rfl) (.yes rfl) c1)<|Z7 rfl<|Z2<|Zf<|cH h fun c2 h=>?_
  cases h
  exact ⟨_,_,(.cons (.tmp rfl) .nil),.nil,⟨_,rfl,⟨(Zhi 1 v0 (p1).toNat (z2).toNat),rfl,rfl,(Shp.cut (Shp.rd A0) (lz:=p1) (hz:=z2) c1),(Shp.notnil (Shp.cut (Shp.rd A0) (lz:=p1) (hz:=z2) c1) c2),(fun W A0=>(Z0on A0 (lz:=p1) (hz:=z2) c1))⟩⟩⟩
def Z3o (y1:(Bool×LI)) (k1:Int->Option (Int×Bool)) (k2:Int->Int->Option (Int×Bool)) (i1:Int) (i2:Int):Option (Int×Bool) :=
 br ((decide (i2<(y1.2.length:Int)))) (
 chk (inB i2 y1.2.length) <|
 bnd (y1.2.getD (i2).toNat 0) fun z1 =>
 bnd (Zn .u64 i1 8) fun z2 =>
 bnd (wrap .u64 z1) fun z3 =>
 bnd (Z4 .or .u64 z2 z3) fun z4 =>
 bnd (wrap .i64 (i2+1)) fun z5 =>
 k2 z4 z5
 ) (
 k1 i1
 )
def Z15 (y1:(Bool×LI)) (k1:Int->Option (Int×Bool)):Nat->Int->Int->Option (Int×Bool)
  | 0,_,_=>none
  | n+1,i1,i2=>Z3o y1 k1 (Z15 y1 k1 n) i1 i2
def Z5a (p0:LI) (p1:Int):Option (Int×Bool) :=
 opt (Z4r p0 p1) fun y1 =>
 jn (fun (i1:Int)=>some (i1,(!y1.1))) fun k1=>Z15 y1 k1 big 0 0
theorem Zgb {W:World} {r:Int×Bool} {p0:LI} {p1:Int} {v0:Value} (h:Z5a p0 p1=some r) (A0:Z6r (El.int .u8) W v0 p0) :
    Calls Tryz.prog 467 [v0,.int .i64 (p1)].toArray W (Z1w W (.tuple #[.int .u64 (r.1),.bool (r.2)])):=by
 unfold Z5a at h
 refine Z9 mo Z0z1 rfl ?_
 refine Z0<|Z1<|Z7 rfl<|Z7 rfl<|Z2<|Z0<|Z1<|Z7 rfl<|Z2<|Z0<|oH h fun y1 f1 h=>Z1<|Z7 rfl<|Z7 rfl<|Za (Zg rfl (fun w hw=>Za3  f1 ((Z1n A0 Z20) w hw)) fun v5 o1 R1=>?_)
 obtain ⟨_,rfl,rfl,P10,N8,H9⟩:=R1
 refine Z7 rfl<|Z2<|Z0<|Z0<|Z1<|Z7 rfl<|Zq _ (Z40 rfl P10)<|Z7 rfl<|Z2<|jH h fun k1 q1 h=>Zo (G:=fun t m=>∃ (i1:Int),k1 i1=some r/\Fit [(6,.int .u64 (i1)),(7,v5)] [] t m) ?_ ?_
 ·refine Zb<|Zz (fun n1 t m=>∃ (i2:Int) (i3:Int),Z15 y1 k1 n1 i2 i3=some r/\Fit [(6,.int .u64 (i2)),(7,v5),(13,v5),(14,.int .i64 ((y1.2.length:Int))),(15,.int .i64 (i3))] [] t m) big ?_ ?_
  ·exact ⟨0,0,h,⟨⟨rfl,rfl,rfl,rfl,rfl,trivial⟩,.nil⟩⟩
  ·rintro n1 t m ⟨i2,i3,h,hF⟩
   refine Zi hF ?_
   clear hF
   rcases n1 with _ | n1
   · exact Z0s h
   have h:Z3o y1 k1 (Z15 y1 k1 n1) i2 i3=some r:=h
   unfold Z3o at h
   obtain ⟨k2,q2⟩ : ∃ k,k=Z15 y1 k1 n1:=⟨_,rfl⟩
   try rw [<- q2] at h
   refine Z0<|Z1<|j_c rfl<|Z2<|Z0<|Z0k h rfl (fun h=>?_) (fun h=>?_)
   ·refine Zp<|Z0<|Zb<|Z0<|cH h fun c1 h=>bH h fun z1 e1 h=>Z1<|Zq _ (Z48 rfl rfl P10 c1)<|Zq _ (iz e1 (Z4y (E:=(El.int .u8)) (s:=[.one (.int .u8 (y1.2.getD (i3).toNat 0))]) rfl (Z03g H9 (Z1n A0 Z20)) (Z0g c1) rfl rfl))<|Z7 rfl<|Z2<|bH h fun z2 e2 h=>bH h fun z3 e3 h=>bH h fun z4 e4 h=>Z1<|Z7 rfl<|Zq _ (iz e2 (Zno rfl rfl (by decide)))<|Z7 rfl<|j_v e3 rfl<|j_b e4 rfl<|Z7 rfl<|Z2<|bH h fun z5 e5 h=>Z1<|j_b e5 rfl<|Z7 rfl<|Z2 ?_
    rw [q2] at h
    exact ⟨n1,Nat.lt_succ_self _,z4,z5,h,⟨⟨rfl,rfl,rfl,rfl,rfl,trivial⟩,.nil⟩⟩
   ·exact Z08 _ rfl<|⟨i2,h,⟨⟨rfl,rfl,trivial⟩,.nil⟩⟩
 ·rintro t m ⟨i1,h,hF⟩
  refine Zi hF ?_
  clear hF
  subst q1
  refine Z0<|Z1<|Z7 rfl<|Z7 rfl<|Zq _ (Z08z rfl P10 N8)<|Z7 rfl<|Z7 rfl<|Z2<|Zf ?_
  cases h
  exact ⟨_,(.cons (.tmp rfl) (.cons (.tmp rfl) .nil)),rfl⟩
def Z4b (p0:Int) (p1:Int):Option Int :=
 opt (Z3h) fun y1 =>
 bnd (wrap .u64 p1) fun z1 =>
 bnd (wrap .i64 (y1-1)) fun z2 =>
 bnd (wrap .u64 z2) fun z3 =>
 bnd (Z4 .and .u64 z1 z3) fun z4 =>
 chk (decide (0<=z4)) <|
 bnd (Zx .u64 p0 z4) fun z5 =>
 bnd (wrap .u64 y1) fun z6 =>
 bnd (wrap .u64 (z6-z4)) fun z7 =>
 chk (decide (0<=z7)) <|
 bnd (Zn .u64 p0 z7) fun z8 =>
 bnd (Z4 .or .u64 z5 z8) fun z9 =>
 some z9
theorem Z3q {W:World} {r:Int} {p0:Int} {p1:Int} (h:Z4b p0 p1=some r)  :
    Calls Tryz.prog 484 [.int .u64 (p0),.int .i64 (p1)].toArray W (Z1w W (.int .u64 (r))):=by
 unfold Z4b at h
 refine Z9 mo Z0zb rfl ?_
 refine Z0<|Z1<|Z7 rfl<|Z2<|Z0<|oH h fun y1 f1 h=>Z1<|Z2o rfl (Z52 f1)<|Z7 rfl<|Z2<|Z0<|bH h fun z1 e1 h=>bH h fun z2 e2 h=>bH h fun z3 e3 h=>bH h fun z4 e4 h=>Z1<|Z7 rfl<|j_v e1 rfl<|Z7 rfl<|j_b e2 rfl<|j_v e3 rfl<|j_b e4 rfl<|Z7 rfl<|Z2<|Z0<|cH h fun c1 h=>bH h fun z5 e5 h=>bH h fun z6 e6 h=>bH h fun z7 e7 h=>cH h fun c2 h=>bH h fun z8 e8 h=>bH h fun z9 e9 h=>Z1<|Z7 rfl<|Z7 rfl<|Zq _ (iz e5 (Z61 rfl rfl (of_decide_eq_true c1)))<|Z7 rfl<|Z7 rfl<|j_v e6 rfl<|Z7 rfl<|j_b e7 rfl<|Zq _ (iz e8 (Zno rfl rfl (of_decide_eq_true c2)))<|j_b e9 rfl<|Z7 rfl<|Z2<|Zf ?_
 cases h
 exact ⟨_,(.cons (.tmp rfl) .nil),rfl⟩
def Zao (p0:Int) (p1:Int) (p2:Int) (p3:Int):Option Int :=
 opt (Z4b p0 p1) fun y1 =>
 opt (Z4b p0 p2) fun y2 =>
 bnd (Z4 .xor .u64 y1 y2) fun z1 =>
 chk (decide (0<=p3)) <|
 bnd (Zx .u64 p0 p3) fun z2 =>
 bnd (Z4 .xor .u64 z1 z2) fun z3 =>
 some z3
theorem Zh8 {W:World} {r:Int} {p0:Int} {p1:Int} {p2:Int} {p3:Int} (h:Zao p0 p1 p2 p3=some r)  :
    Calls Tryz.prog 483 [.int .u64 (p0),.int .i64 (p1),.int .i64 (p2),.int .i64 (p3)].toArray W (Z1w W (.int .u64 (r))):=by
 unfold Zao at h
 refine Z9 mo Z0za rfl ?_
 refine Z0<|Z1<|Z7 rfl<|Z2<|Z0<|oH h fun y1 f1 h=>oH h fun y2 f2 h=>bH h fun z1 e1 h=>cH h fun c1 h=>bH h fun z2 e2 h=>bH h fun z3 e3 h=>Zv<|k_m rfl<|k_m rfl<|Z4o rfl (Z3q f1)<|k_m rfl<|k_m rfl<|Z4o rfl (Z3q f2)<|k_b e1 rfl<|k_m rfl<|k_m rfl<|Z0x _ (iz e2 (Z61 rfl rfl (of_decide_eq_true c1)))<|k_b e3 rfl<|k_m rfl<|Z03<|Zf ?_
 cases h
 exact ⟨_,(.cons (.tmp rfl) .nil),rfl⟩
def Z5l (p0:LI) (k1:(LI)->OL) (k2:Int->(LI)->OL) (i1:Int) (a1:LI):OL :=
 br ((decide (i1<80))) (
 jn (fun (a2:LI)=>bnd (wrap .i64 (i1+1)) fun z1 =>
 k2 z1 a2) fun k3=>br ((decide (i1<16))) (
 bnd (wrap .i64 (8*i1)) fun z2 =>
 opt (Z5a (tk p0 0 128) z2) fun y1 =>
 chk (inB i1 80) <|
 bnd (Z2g a1 (i1).toNat y1.1) fun l1 =>
 k3 l1
 ) (
 bnd (wrap .i64 (i1-2)) fun z3 =>
 chk (inB z3 80) <|
 bnd (wrap .i64 (i1-7)) fun z4 =>
 chk (inB z4 80) <|
 bnd (wrap .i64 (i1-15)) fun z5 =>
 chk (inB z5 80) <|
 bnd (wrap .i64 (i1-16)) fun z6 =>
 chk (inB z6 80) <|
 bnd (a1.getD (z3).toNat 0) fun z7 =>
 opt (Zao z7 19 61 6) fun y2 =>
 bnd (a1.getD (z4).toNat 0) fun z8 =>
 bnd (wrap .u64 (y2+z8)) fun z9 =>
 bnd (a1.getD (z5).toNat 0) fun z10 =>
 opt (Zao z10 1 8 7) fun y3 =>
 bnd (wrap .u64 (z9+y3)) fun z11 =>
 bnd (a1.getD (z6).toNat 0) fun z12 =>
 bnd (wrap .u64 (z11+z12)) fun z13 =>
 chk (inB i1 80) <|
 bnd (Z2g a1 (i1).toNat z13) fun l2 =>
 k3 l2
 )
 ) (
 k1 a1
 )
def Z1y (p0:LI) (k1:(LI)->OL):Nat->Int->(LI)->OL
  | 0,_,_=>none
  | n+1,i1,a1=>Z5l p0 k1 (Z1y p0 k1 n) i1 a1
def Z7z (p0:LI):OL :=
 jn (fun (a1:LI)=>some a1) fun k1=>Z1y p0 k1 big 0 (replicate 80 0)
theorem Zjo {W:World} {r:(LI)} {p0:LI} (h:Z7z p0=some r)  :
    Calls Tryz.prog 470 [agg [.ints .u8 128 (p0)]].toArray W (Z1w W (agg [.ints .u64 80 (r)])):=by
 unfold Z7z at h
 refine Z9 mo Z0z4 rfl ?_
 refine Z0<|Z1<|Za (Z02 (s:=[.ints .u8 128 (p0)]) rfl fun b1 u1=>Za (Zu fun b2 u2=>Z2<|Z0<|Z1<|Za (Zu fun b3 u3=>Z2<|Z0<|Z0<|Z1<|Z7 rfl<|Z2<|jH h fun k1 q1 h=>Zo (G:=fun t m=>∃ (a1:LI),k1 a1=some r/\Fit [(2,pt' b2),(3,pt' b3)] (ck b3 343 [.ints .u64 80 (a1)]::(ck b2 343 [.ints .u64 80 ((replicate 80 0))]::(ck b1 450 [.ints .u8 128 (p0)] :: []))) t m) ?_ ?_)))
 ·refine Zb<|Zz (fun n1 t m=>∃ (i1:Int) (a2:LI),Z1y p0 k1 n1 i1 a2=some r/\Fit [(1,pt' b1),(2,pt' b2),(3,pt' b3),(5,.int .i64 (i1))] (ck b3 343 [.ints .u64 80 (a2)]::(ck b2 343 [.ints .u64 80 ((replicate 80 0))]::(ck b1 450 [.ints .u8 128 (p0)] :: []))) t m) big ?_ ?_
  ·exact ⟨0,(replicate 80 0),h,⟨⟨rfl,rfl,rfl,rfl,trivial⟩,(.o (.o (.o .nil)))⟩⟩
  ·rintro n1 t m ⟨i1,a2,h,hF⟩
   refine Zi hF ?_
   clear hF
   rcases n1 with _ | n1
   · exact Z0s h
   have h:Z5l p0 k1 (Z1y p0 k1 n1) i1 a2=some r:=h
   unfold Z5l at h
   obtain ⟨k2,q2⟩ : ∃ k,k=Z1y p0 k1 n1:=⟨_,rfl⟩
   try rw [<- q2] at h
   refine Z0<|Z1<|j_c rfl<|Z2<|Z0<|Z0k h rfl (fun h=>?_) (fun h=>?_)
   ·refine Zp<|Z0<|jH h fun k3 q3 h=>Zo (G:=fun t m=>∃ (a3:LI),k3 a3=some r/\Fit [(1,pt' b1),(2,pt' b2),(3,pt' b3),(5,.int .i64 (i1))] (ck b3 343 [.ints .u64 80 (a3)]::(ck b2 343 [.ints .u64 80 ((replicate 80 0))]::(ck b1 450 [.ints .u8 128 (p0)] :: []))) t m) ?_ ?_
    ·refine Zb<|Z0<|Z1<|Z7 rfl<|Z7 rfl<|Z2<|Z0<|Z0<|Z1<|Z7 rfl<|j_c rfl<|Z2<|Z0k h rfl (fun h=>?_) (fun h=>?_)
     ·exact Z0<|bH h fun z1 e1 h=>oH h fun y1 f1 h=>cH h fun c1 h=>bH h fun l1 g1 h=>Z1<|Z7 rfl<|Zq _ (Z8b rfl .no .no .no (by simp) (by decide))<|Z7 rfl<|j_b e1 rfl<|Zq _ (Z06 rfl (fun w hw=>Zgb f1 ((Z1u (s:=[.ints .u8 128 (p0)]) (N:=128) (k:=.u8) (base:=0) (lo:=0) (hi:=128) (mz:=128) .t2 rfl (by decide)) w hw)))<|Z7 rfl<|Zf1 rfl rfl<|Zf1 rfl rfl<|Z44 rfl rfl (Z0q c1)<|Za (Z1z (q:=[.ints .u64 80 (l1)]) (base:=0) g1 rfl rfl rfl (Z0g c1) rfl .here<|Z2<|Z08 _ rfl<|⟨l1,h,⟨⟨rfl,rfl,rfl,rfl,trivial⟩,(.o (.o (.o .nil)))⟩⟩)
     ·exact Zp<|bH h fun z2 e2 h=>cH h fun c2 h=>bH h fun z3 e3 h=>cH h fun c3 h=>bH h fun z4 e4 h=>cH h fun c4 h=>bH h fun z5 e5 h=>cH h fun c5 h=>bH h fun z6 e6 h=>oH h fun y2 f2 h=>bH h fun z7 e7 h=>bH h fun z8 e8 h=>bH h fun z9 e9 h=>oH h fun y3 f3 h=>bH h fun z10 e10 h=>bH h fun z11 e11 h=>bH h fun z12 e12 h=>cH h fun c6 h=>bH h fun l2 g2 h=>Zv<|k_m rfl<|k_m rfl<|k_b e2 rfl<|Z6v rfl rfl (Z0q c2)<|k_m rfl<|k_b e3 rfl<|Z6v rfl rfl (Z0q c3)<|k_m rfl<|k_b e4 rfl<|Z6v rfl rfl (Z0q c4)<|k_m rfl<|k_b e5 rfl<|Z6v rfl rfl (Z0q c5)<|Z0v _ (iz e6 (Z32 (base:=0) rfl .here rfl (Z0g c2)))<|Z4o rfl (Zh8 f2)<|Z0v _ (iz e7 (Z32 (base:=0) rfl .here rfl (Z0g c3)))<|k_b e8 rfl<|Z0v _ (iz e9 (Z32 (base:=0) rfl .here rfl (Z0g c4)))<|Z4o rfl (Zh8 f3)<|k_b e10 rfl<|Z0v _ (iz e11 (Z32 (base:=0) rfl .here rfl (Z0g c5)))<|k_b e12 rfl<|Z6v rfl rfl (Z0q c6)<|Z16 rfl (Z1z (q:=[.ints .u64 80 (l2)]) (base:=0) g2 rfl rfl rfl (Z0g c6) rfl .here<|Z03<|⟨l2,h,⟨⟨rfl,rfl,rfl,rfl,trivial⟩,(.o (.o (.o .nil)))⟩⟩)
    ·rintro t m ⟨a3,h,hF⟩
     refine Zi hF ?_
     clear hF
     subst q3
     refine bH h fun z13 e13 h=>Z1<|j_b e13 rfl<|Z7 rfl<|Z2 ?_
     rw [q2] at h
     exact ⟨n1,Nat.lt_succ_self _,z13,a3,h,⟨⟨rfl,rfl,rfl,rfl,trivial⟩,(.o (.o (.o .nil)))⟩⟩
   ·exact Z08 _ rfl<|⟨a2,h,⟨⟨rfl,rfl,trivial⟩,(.o (.o (.o .nil)))⟩⟩
 ·rintro t m ⟨a1,h,hF⟩
  refine Zi hF ?_
  clear hF
  subst q1
  refine Z0<|Z1<|Z0z (p:=[.ints .u64 80 (a1)]) rfl .here rfl<|Za (Zm (q:=[.ints .u64 80 (a1)]) rfl rfl rfl rfl rfl .t1<|Z2<|Zf ?_)
  cases h
  exact ⟨_,(.cons (.agg rfl .t1 rfl) .nil),rfl⟩
def Zct (p0:Int) (p1:Int) (p2:Int) (p3:Int):Option Int :=
 opt (Z4b p0 p1) fun y1 =>
 opt (Z4b p0 p2) fun y2 =>
 bnd (Z4 .xor .u64 y1 y2) fun z1 =>
 opt (Z4b p0 p3) fun y3 =>
 bnd (Z4 .xor .u64 z1 y3) fun z2 =>
 some z2
theorem Zir {W:World} {r:Int} {p0:Int} {p1:Int} {p2:Int} {p3:Int} (h:Zct p0 p1 p2 p3=some r)  :
    Calls Tryz.prog 471 [.int .u64 (p0),.int .i64 (p1),.int .i64 (p2),.int .i64 (p3)].toArray W (Z1w W (.int .u64 (r))):=by
 unfold Zct at h
 refine Z9 mo Z0z5 rfl ?_
 refine Z0<|Z1<|Z7 rfl<|Z2<|Z0<|oH h fun y1 f1 h=>oH h fun y2 f2 h=>bH h fun z1 e1 h=>oH h fun y3 f3 h=>bH h fun z2 e2 h=>Z1<|Z7 rfl<|Z7 rfl<|Z2o rfl (Z3q f1)<|Z7 rfl<|Z7 rfl<|Z2o rfl (Z3q f2)<|j_b e1 rfl<|Z7 rfl<|Z7 rfl<|Z2o rfl (Z3q f3)<|j_b e2 rfl<|Z7 rfl<|Z2<|Zf ?_
 cases h
 exact ⟨_,(.cons (.tmp rfl) .nil),rfl⟩
def Z7y (y1:(LI)) (k1:Int->Int->Int->Int->Int->Int->Int->Int->OL) (k2:Int->Int->Int->Int->Int->Int->Int->Int->Int->OL) (i1:Int) (i2:Int) (i3:Int) (i4:Int) (i5:Int) (i6:Int) (i7:Int) (i8:Int) (i9:Int):OL :=
 br ((decide (i9<80))) (
 chk (inB i9 80) <|
 bnd (G_table.getD (i9).toNat 0) fun z1 =>
 opt (Zct i5 14 18 41) fun y2 =>
 bnd (wrap .u64 (i8+y2)) fun z2 =>
 bnd (Z4 .and .u64 i5 i6) fun z3 =>
 bnd (Z4 .xor .u64 18446744073709551615 i5) fun z4 =>
 bnd (Z4 .and .u64 z4 i7) fun z5 =>
 bnd (Z4 .xor .u64 z3 z5) fun z6 =>
 bnd (wrap .u64 (z2+z6)) fun z7 =>
 bnd (wrap .u64 (z7+z1)) fun z8 =>
 chk (inB i9 80) <|
 bnd (y1.getD (i9).toNat 0) fun z9 =>
 bnd (wrap .u64 (z8+z9)) fun z10 =>
 opt (Zct i1 28 34 39) fun y3 =>
 bnd (Z4 .and .u64 i1 i2) fun z11 =>
 bnd (Z4 .and .u64 i1 i3) fun z12 =>
 bnd (Z4 .xor .u64 z11 z12) fun z13 =>
 bnd (Z4 .and .u64 i2 i3) fun z14 =>
 bnd (Z4 .xor .u64 z13 z14) fun z15 =>
 bnd (wrap .u64 (y3+z15)) fun z16 =>
 bnd (wrap .u64 (i4+z10)) fun z17 =>
 bnd (wrap .u64 (z10+z16)) fun z18 =>
 bnd (wrap .i64 (i9+1)) fun z19 =>
 k2 z18 i1 i2 i3 z17 i5 i6 i7 z19
 ) (
 k1 i1 i2 i3 i4 i5 i6 i7 i8
 )
def Z34 (y1:(LI)) (k1:Int->Int->Int->Int->Int->Int->Int->Int->OL):Nat->Int->Int->Int->Int->Int->Int->Int->Int->Int->OL
  | 0,_,_,_,_,_,_,_,_,_=>none
  | n+1,i1,i2,i3,i4,i5,i6,i7,i8,i9=>Z7y y1 k1 (Z34 y1 k1 n) i1 i2 i3 i4 i5 i6 i7 i8 i9
def Zdw (z1:LI) (k1:(LI)->OL) (k2:Int->(LI)->OL) (i1:Int) (a1:LI):OL :=
 br ((decide (i1<8))) (
 chk (inB i1 8) <|
 bnd (z1.getD (i1).toNat 0) fun z2 =>
 chk (inB i1 8) <|
 bnd (a1.getD (i1).toNat 0) fun z3 =>
 bnd (wrap .u64 (z3+z2)) fun z4 =>
 chk (inB i1 8) <|
 bnd (Z2g a1 (i1).toNat z4) fun l1 =>
 bnd (wrap .i64 (i1+1)) fun z5 =>
 k2 z5 l1
 ) (
 k1 a1
 )
def Z62 (z1:LI) (k1:(LI)->OL):Nat->Int->(LI)->OL
  | 0,_,_=>none
  | n+1,i1,a1=>Zdw z1 k1 (Z62 z1 k1 n) i1 a1
def Zbr (p0:LI) (p1:LI):OL :=
 opt (Z7z p1) fun y1 =>
 bnd (p0.getD 0 0) fun z1 =>
 bnd (p0.getD 1 0) fun z2 =>
 bnd (p0.getD 2 0) fun z3 =>
 bnd (p0.getD 3 0) fun z4 =>
 bnd (p0.getD 4 0) fun z5 =>
 bnd (p0.getD 5 0) fun z6 =>
 bnd (p0.getD 6 0) fun z7 =>
 bnd (p0.getD 7 0) fun z8 =>
 jn (fun (i1:Int) (i2:Int) (i3:Int) (i4:Int) (i5:Int) (i6:Int) (i7:Int) (i8:Int)=>bnd (([i1,i2,i3,i4,i5,i6,i7,i8]:LI)) fun z9 =>
 jn (fun (a1:LI)=>some a1) fun k1=>Z62 z9 k1 big 0 p0) fun k2=>Z34 y1 k2 big z1 z2 z3 z4 z5 z6 z7 z8 0
theorem Zmn {W:World} {r:(LI)} {p0:LI} {p1:LI} (h:Zbr p0 p1=some r) (hG:Globs W) :
    Calls Tryz.prog 390 [agg [u8' p0],agg [.ints .u8 128 (p1)]].toArray W (Z1w W (agg [u8' r])):=by
 unfold Zbr at h
 refine Z9 mo Z0xv rfl ?_
 refine Z0<|Z1<|Za (Z02 (s:=[u8' p0]) rfl fun b1 u1=>Za (Z02 (s:=[.ints .u8 128 (p1)]) rfl fun b2 u2=>Za (Zu fun b3 u3=>Z2<|Z0<|oH h fun y1 f1 h=>Z1<|Z0z (p:=[.ints .u8 128 (p1)]) rfl .t1 (by kernel_rfl)<|Z2o rfl (Zjo f1)<|Za (Zu fun b4 u4=>Za (Zm (q:=[.ints .u64 80 (y1)]) rfl rfl rfl rfl rfl .here<|Z2<|Z0<|bH h fun z1 e1 h=>bH h fun z2 e2 h=>bH h fun z3 e3 h=>bH h fun z4 e4 h=>Zv<|Z6v rfl rfl (by decide)<|Z6v rfl rfl (by decide)<|Z6v rfl rfl (by decide)<|Z6v rfl rfl (by decide)<|l_i e1 rfl .t3 rfl<|k_m rfl<|l_i e2 rfl .t3 rfl<|k_m rfl<|l_i e3 rfl .t3 rfl<|k_m rfl<|l_i e4 rfl .t3 rfl<|k_m rfl<|Z03<|Z0<|bH h fun z5 e5 h=>bH h fun z6 e6 h=>bH h fun z7 e7 h=>bH h fun z8 e8 h=>Zv<|Z6v rfl rfl (by decide)<|Z6v rfl rfl (by decide)<|Z6v rfl rfl (by decide)<|Z6v rfl rfl (by decide)<|l_i e5 rfl .t3 rfl<|k_m rfl<|l_i e6 rfl .t3 rfl<|k_m rfl<|l_i e7 rfl .t3 rfl<|k_m rfl<|l_i e8 rfl .t3 rfl<|k_m rfl<|Z03<|Z0<|Z0<|Z1<|Zq _ (Z004 (o0:=0) (off:=0) rfl (hG.g6) (by simp) rfl)<|Z7 rfl<|Z2<|jH h fun k1 q1 h=>Zo (G:=fun t m=>∃ (i1:Int) (i2:Int) (i3:Int) (i4:Int) (i5:Int) (i6:Int) (i7:Int) (i8:Int),k1 i1 i2 i3 i4 i5 i6 i7 i8=some r/\Fit [(2,pt' b1),(4,pt' b3),(6,.int .u64 (i1)),(7,.int .u64 (i2)),(8,.int .u64 (i3)),(9,.int .u64 (i4)),(10,.int .u64 (i5)),(11,.int .u64 (i6)),(12,.int .u64 (i7)),(13,.int .u64 (i8))] (ck b4 343 [.ints .u64 80 (y1)]::(ck b3 230 [u8' (replicate 8 0)]::(ck b2 450 [.ints .u8 128 (p1)]::(ck b1 230 [u8' p0] :: [])))) t m) ?_ ?_)))))
 ·refine Zb<|Zz (fun n1 t m=>∃ (i9:Int) (i10:Int) (i11:Int) (i12:Int) (i13:Int) (i14:Int) (i15:Int) (i16:Int) (i17:Int),Z34 y1 k1 n1 i9 i10 i11 i12 i13 i14 i15 i16 i17=some r/\Fit [(2,pt' b1),(4,pt' b3),(5,pt' b4),(6,.int .u64 (i9)),(7,.int .u64 (i10)),(8,.int .u64 (i11)),(9,.int .u64 (i12)),(10,.int .u64 (i13)),(11,.int .u64 (i14)),(12,.int .u64 (i15)),(13,.int .u64 (i16)),(38,agg [.ints .u64 80 (G_table)]),(39,.int .i64 (i17))] (ck b4 343 [.ints .u64 80 (y1)]::(ck b3 230 [u8' (replicate 8 0)]::(ck b2 450 [.ints .u8 128 (p1)]::(ck b1 230 [u8' p0] :: [])))) t m) big ?_ ?_
  ·exact ⟨z1,z2,z3,z4,z5,z6,z7,z8,0,h,⟨⟨rfl,rfl,rfl,rfl,rfl,rfl,rfl,rfl,rfl,rfl,rfl,rfl,rfl,trivial⟩,(.o (.o (.o (.o .nil))))⟩⟩
  ·rintro n1 t m ⟨i9,i10,i11,i12,i13,i14,i15,i16,i17,h,hF⟩
   refine Zi hF ?_
   clear hF
   rcases n1 with _ | n1
   · exact Z0s h
   have h:Z7y y1 k1 (Z34 y1 k1 n1) i9 i10 i11 i12 i13 i14 i15 i16 i17=some r:=h
   unfold Z7y at h
   obtain ⟨k2,q2⟩ : ∃ k,k=Z34 y1 k1 n1:=⟨_,rfl⟩
   try rw [<- q2] at h
   refine Z0<|Z1<|j_c rfl<|Z2<|Z0<|Z0k h rfl (fun h=>?_) (fun h=>?_)
   ·refine Zp<|Z0<|Zb<|Z0<|cH h fun c1 h=>bH h fun z9 e9 h=>Z1<|Z7 rfl<|Zq _ (iz e9 (Zn6 (len:=80) rfl rfl (Z0q c1)))<|Z7 rfl<|Z7 rfl<|Z2<|Z0<|oH h fun y2 f2 h=>bH h fun z10 e10 h=>bH h fun z11 e11 h=>bH h fun z12 e12 h=>bH h fun z13 e13 h=>bH h fun z14 e14 h=>bH h fun z15 e15 h=>bH h fun z16 e16 h=>cH h fun c2 h=>bH h fun z17 e17 h=>bH h fun z18 e18 h=>Zv<|k_m rfl<|k_m rfl<|Z4o rfl (Zir f2)<|k_b e10 rfl<|k_m rfl<|k_m rfl<|k_b e11 rfl<|k_m rfl<|Z0x _ (iz e12 (Zuu rfl rfl))<|k_m rfl<|k_b e13 rfl<|k_b e14 rfl<|k_b e15 rfl<|k_m rfl<|k_b e16 rfl<|k_m rfl<|Z6v rfl rfl (Z0q c2)<|Z0v _ (iz e17 (Z32 (base:=0) rfl .here rfl (Z0g c2)))<|k_b e18 rfl<|k_m rfl<|Z03<|Z0<|oH h fun y3 f3 h=>bH h fun z19 e19 h=>bH h fun z20 e20 h=>bH h fun z21 e21 h=>bH h fun z22 e22 h=>bH h fun z23 e23 h=>bH h fun z24 e24 h=>Z1<|Z7 rfl<|Z2o rfl (Zir f3)<|Z7 rfl<|Z7 rfl<|j_b e19 rfl<|Z7 rfl<|Z7 rfl<|j_b e20 rfl<|j_b e21 rfl<|Z7 rfl<|Z7 rfl<|j_b e22 rfl<|j_b e23 rfl<|j_b e24 rfl<|Z7 rfl<|Z2<|bH h fun z25 e25 h=>bH h fun z26 e26 h=>Z1<|Z7 rfl<|Z7 rfl<|Z7 rfl<|Z7 rfl<|Z7 rfl<|j_b e25 rfl<|Z7 rfl<|Z7 rfl<|Z7 rfl<|Z7 rfl<|Z7 rfl<|j_b e26 rfl<|Z7 rfl<|Z7 rfl<|Z7 rfl<|Z7 rfl<|Z7 rfl<|Z7 rfl<|Z7 rfl<|Z7 rfl<|Z2<|bH h fun z27 e27 h=>Z1<|j_b e27 rfl<|Z7 rfl<|Z2 ?_
    rw [q2] at h
    exact ⟨n1,Nat.lt_succ_self _,z26,i9,i10,i11,z25,i13,i14,i15,z27,h,⟨⟨rfl,rfl,rfl,rfl,rfl,rfl,rfl,rfl,rfl,rfl,rfl,rfl,rfl,trivial⟩,(.o (.o (.o (.o .nil))))⟩⟩
   ·exact Z08 _ rfl<|⟨i9,i10,i11,i12,i13,i14,i15,i16,h,⟨⟨rfl,rfl,rfl,rfl,rfl,rfl,rfl,rfl,rfl,rfl,trivial⟩,(.o (.o (.o (.o .nil))))⟩⟩
 ·rintro t m ⟨i1,i2,i3,i4,i5,i6,i7,i8,h,hF⟩
  refine Zi hF ?_
  clear hF
  subst q1
  refine Z0<|Z0<|bH h fun z28 e28 h=>Z1<|Z7 rfl<|Z7 rfl<|Z7 rfl<|Z7 rfl<|Z7 rfl<|Z7 rfl<|Z7 rfl<|Z7 rfl<|Zq _ (az (fun z=>agg [.ints .u64 8 z]) e28 (Zex (.one rfl rfl rfl (.one rfl rfl rfl (.one rfl rfl rfl (.one rfl rfl rfl (.one rfl rfl rfl (.one rfl rfl rfl (.one rfl rfl rfl (.one rfl rfl rfl BdR.nil))))))))))<|Z7 rfl<|Z2<|jH h fun k3 q3 h=>Zo (G:=fun t m=>∃ (a1:LI),k3 a1=some r/\Fit [(2,pt' b1),(4,pt' b3)] (ck b4 343 [.ints .u64 80 (y1)]::(ck b3 230 [u8' (replicate 8 0)]::(ck b2 450 [.ints .u8 128 (p1)]::(ck b1 230 [u8' a1] :: [])))) t m) ?_ ?_
  ·refine Zb<|Zz (fun n2 t m=>∃ (i18:Int) (a2:LI),Z62 z28 k3 n2 i18 a2=some r/\Fit [(2,pt' b1),(4,pt' b3),(97,agg [u8' z28]),(98,.int .i64 (i18))] (ck b4 343 [.ints .u64 80 (y1)]::(ck b3 230 [u8' (replicate 8 0)]::(ck b2 450 [.ints .u8 128 (p1)]::(ck b1 230 [u8' a2] :: [])))) t m) big ?_ ?_
   ·exact ⟨0,p0,h,⟨⟨rfl,rfl,rfl,rfl,trivial⟩,(.o (.o (.o (.o .nil))))⟩⟩
   ·rintro n2 t m ⟨i18,a2,h,hF⟩
    refine Zi hF ?_
    clear hF
    rcases n2 with _ | n2
    · exact Z0s h
    have h:Zdw z28 k3 (Z62 z28 k3 n2) i18 a2=some r:=h
    unfold Zdw at h
    obtain ⟨k4,q4⟩ : ∃ k,k=Z62 z28 k3 n2:=⟨_,rfl⟩
    try rw [<- q4] at h
    refine Z0<|Z1<|j_c rfl<|Z2<|Z0<|Z0k h rfl (fun h=>?_) (fun h=>?_)
    ·refine Zp<|Z0<|Zb<|Z0<|cH h fun c3 h=>bH h fun z29 e29 h=>Z1<|Z7 rfl<|Zq _ (iz e29 (Zn6 (len:=8) rfl rfl (Z0q c3)))<|Z7 rfl<|Z7 rfl<|Z2<|cH h fun c4 h=>bH h fun z30 e30 h=>bH h fun z31 e31 h=>cH h fun c5 h=>bH h fun l1 g1 h=>Z1<|Z7 rfl<|Z44 rfl rfl (Z0q c4)<|Zq _ (iz e30 (Z32 (base:=0) rfl .t3 rfl (Z0g c4)))<|Z7 rfl<|j_b e31 rfl<|Z44 rfl rfl (Z0q c5)<|Za (Z1z (q:=[u8' l1]) (base:=0) g1 rfl rfl rfl (Z0g c5) rfl .t3<|Z2<|bH h fun z32 e32 h=>Z1<|j_b e32 rfl<|Z7 rfl<|Z2 ?_)
     rw [q4] at h
     exact ⟨n2,Nat.lt_succ_self _,z32,l1,h,⟨⟨rfl,rfl,rfl,rfl,trivial⟩,(.o (.o (.o (.o .nil))))⟩⟩
    ·exact Z08 _ rfl<|⟨a2,h,⟨⟨rfl,rfl,trivial⟩,(.o (.o (.o (.o .nil))))⟩⟩
  ·rintro t m ⟨a1,h,hF⟩
   refine Zi hF ?_
   clear hF
   subst q3
   refine Z0<|Z1<|Z0z (p:=[u8' a1]) rfl .t3 rfl<|Za (Zm (q:=[u8' a1]) rfl rfl rfl rfl rfl .t1<|Z2<|Zf ?_)
   cases h
   exact ⟨_,(.cons (.agg rfl .t1 rfl) .nil),rfl⟩
def Z2d (z1:Int) (k1:(LI)->(LI)->(LI)->Int->Option (Z00)) (l1:LI) (a1:LI) (a2:LI) (i1:Int):Option (Z00) :=
 br ((decide ((l1.length:Int)>0))) (
 chk (Zqi i1 128 128) <|
 bnd (wr a2 (i1).toNat (l1.take (128-(i1).toNat))) fun l2 =>
 chk (Zqi ((Nat.min l1.length (128-(i1).toNat):Nat):Int) (l1.length:Int) l1.length) <|
 bnd (wrap .i64 (i1+((Nat.min l1.length (128-(i1).toNat):Nat):Int))) fun z2 =>
 br ((z2==128)) (
 opt (Zbr a1 l2) fun y1 =>
 k1 ((l1.drop (((Nat.min l1.length (128-(i1).toNat):Nat):Int)).toNat).take (((l1.length:Int)).toNat-(((Nat.min l1.length (128-(i1).toNat):Nat):Int)).toNat)) y1 l2 0
 ) (
 k1 ((l1.drop (((Nat.min l1.length (128-(i1).toNat):Nat):Int)).toNat).take (((l1.length:Int)).toNat-(((Nat.min l1.length (128-(i1).toNat):Nat):Int)).toNat)) a1 l2 z2
 )
 ) (
 some (⟨a1,a2,i1,z1⟩:Z00)
 )
def Z18 (z1:Int):Nat->(LI)->(LI)->(LI)->Int->Option (Z00)
  | 0,_,_,_,_=>none
  | n+1,l1,a1,a2,i1=>Z2d z1 (Z18 z1 n) l1 a1 a2 i1
def Z1r (p0:Z00) (p1:LI):Option (Z00) :=
 bnd (wrap .u64 (p1.length:Int)) fun z1 =>
 bnd (wrap .u64 (p0.glength+z1)) fun z2 =>
 Z18 z2 big p1 p0.gstate p0.gheld p0.ghave
theorem Z63 {W:World} {r:Z00} {p0:Z00} {p1:LI} {v1:Value} {b:Nat} {T:TypeId} (h:Z1r p0 p1=some r) (h0:Sat W [b] (ck b T (Z12 p0 []) :: []) W) (hG:Globs W) (hS : ∀ g,g<ng->g ∉ [b]) (A1:Z6r (El.int .u8) W v1 p1/\Za8 v1 p1 [b]) :
    Calls Tryz.prog 257 [.pointer (some ⟨b,0,none⟩),v1].toArray W (Z67 W [b] (fun v Ms=>v = .tuple #[]/\Ms = [.one (ck b T (Z12 r []))])):=by
 unfold Z1r at h
 refine Zj mo Z0v9 rfl h0 ?_
 refine Z0<|bH h fun z1 e1 h=>bH h fun z2 e2 h=>Z1<|Z7 rfl<|Zq _ (Z28 rfl)<|Z4c rfl<|Zky rfl .here rfl<|Z7 rfl<|Zq _ (Z40 rfl (Shp.rd A1.1))<|j_v e1 rfl<|j_b e2 rfl<|Zq _ (Z28 rfl)<|Z4c rfl<|Za (Zra (q:=[u8' p0.gstate,.ints .u8 128 (p0.gheld),.i p0.ghave,.one (.int .u64 (z2))]) rfl rfl rfl (by kernel_rfl) .here<|Z2<|Zb<|Zz (fun n1 t m=>∃ (l1:LI) (a1:LI) (a2:LI) (i1:Int) (v38:Value),Z18 z2 n1 l1 a1 a2 i1=some r/\(Z6r (El.int .u8) W v38 l1/\Za8 v38 l1 [b])/\Fit [(0,.pointer (some ⟨b,0,none⟩)),(1,v38)] (ck b T [u8' a1,.ints .u8 128 (a2),.i i1,.one (.int .u64 (z2))] :: []) t m) big ?_ ?_)
 ·exact ⟨p1,p0.gstate,p0.gheld,p0.ghave,v1,h,A1,⟨⟨rfl,rfl,trivial⟩,(.o .nil)⟩⟩
 ·rintro n1 t m ⟨l1,a1,a2,i1,v38,h,A40,hF⟩
  refine Zi hF ?_
  clear hF
  rcases n1 with _ | n1
  · exact Z0s h
  have h:Z2d z2 (Z18 z2 n1) l1 a1 a2 i1=some r:=h
  unfold Z2d at h
  obtain ⟨k1,q1⟩ : ∃ k,k=Z18 z2 n1:=⟨_,rfl⟩
  try rw [<- q1] at h
  refine Z0<|Z0<|Z1<|Z7 rfl<|Zq _ (Z40 rfl (Shp.rd A40.1))<|j_c rfl<|Z2<|Z0k h rfl (fun h=>?_) (fun h=>?_)
  ·refine Zp<|Zb<|Z0<|cH h fun c1 h=>bH h fun l2 g1 h=>Zv<|k_m rfl<|Z0x _ (Z28 rfl)<|Zdc rfl<|k_m rfl<|Z0x _ (Z28 rfl)<|Zdc rfl<|k_m rfl<|Z0v _ (Z86 rfl .here rfl)<|Z0x _ (Z8b rfl (.yes rfl) .no .no (by simp) (cut4 c1))<|Z16 rfl (Zlw (q:=[u8' a1,.ints .u8 128 (l2),.i i1,.one (.int .u64 (z2))]) (lo:=(i1).toNat) (hi:=128) (mz:=128) (base:=8) g1 rfl rfl (Z1n A40.1 A40.2) rfl (cutn c1) rfl .here<|k_m rfl<|Z03<|Z0<|cH h fun c2 h=>Z1<|Z7 rfl<|Z7 rfl<|Zq _ (Zyk (lz:=((Nat.min l1.length (128-(i1).toNat):Nat):Int)) (hz:=(l1.length:Int)) rfl (Shp.rd A40.1) (.yes rfl) .no c2)<|Z7 rfl<|Z2<|Z0<|bH h fun z3 e3 h=>Z1<|Z7 rfl<|Zq _ (Z28 rfl)<|Z4c rfl<|Zky rfl .here rfl<|Z7 rfl<|j_b e3 rfl<|Zq _ (Z28 rfl)<|Z4c rfl<|Za (Zra (q:=[u8' a1,.ints .u8 128 (l2),.i z3,.one (.int .u64 (z2))]) rfl rfl rfl (by kernel_rfl) .here<|Z2<|Z0<|Z1<|Z7 rfl<|Zq _ (Z28 rfl)<|Z4c rfl<|Zky rfl .here rfl<|j_c rfl<|Z2<|Z0k h rfl (fun h=>?_) (fun h=>?_)))
   ·refine Z0<|oH h fun y1 f1 h=>Zv<|k_m rfl<|k_m rfl<|Z0x _ (Z28 rfl)<|Zdc rfl<|k_m rfl<|Z0x _ (Z28 rfl)<|Zdc rfl<|Z1q (p:=[u8' a1]) rfl .here (by kernel_rfl)<|Z1q (p:=[.ints .u8 128 (l2)]) rfl .here (by kernel_rfl)<|Z0x _ (Z06 rfl (fun w hw=>Zmn f1 (hG.at hw hS)))<|Z0x _ (Z28 rfl)<|Zdc rfl<|Z16 rfl (Zm (p:=[u8' y1]) (q:=[u8' y1,.ints .u8 128 (l2),.i z3,.one (.int .u64 (z2))]) rfl rfl (by kernel_rfl) (by kernel_rfl) (by kernel_rfl) .here<|Z03<|Z1<|Z7 rfl<|Zq _ (Z28 rfl)<|Z4c rfl<|Za (Zra (q:=[u8' y1,.ints .u8 128 (l2),.i 0,.one (.int .u64 (z2))]) rfl rfl rfl (by kernel_rfl) .here<|Z2 ?_))
    rw [q1] at h
    exact ⟨n1,Nat.lt_succ_self _,((l1.drop (((Nat.min l1.length (128-(i1).toNat):Nat):Int)).toNat).take (((l1.length:Int)).toNat-(((Nat.min l1.length (128-(i1).toNat):Nat):Int)).toNat)),y1,l2,0,(Zhi 1 v38 (((Nat.min l1.length (128-(i1).toNat):Nat):Int)).toNat ((l1.length:Int)).toNat),h,(Z094 A40 (lz:=((Nat.min l1.length (128-(i1).toNat):Nat):Int)) (hz:=(l1.length:Int)) c2),⟨⟨rfl,rfl,trivial⟩,(.o .nil)⟩⟩
   ·refine Zp ?_
    rw [q1] at h
    exact ⟨n1,Nat.lt_succ_self _,((l1.drop (((Nat.min l1.length (128-(i1).toNat):Nat):Int)).toNat).take (((l1.length:Int)).toNat-(((Nat.min l1.length (128-(i1).toNat):Nat):Int)).toNat)),a1,l2,z3,(Zhi 1 v38 (((Nat.min l1.length (128-(i1).toNat):Nat):Int)).toNat ((l1.length:Int)).toNat),h,(Z094 A40 (lz:=((Nat.min l1.length (128-(i1).toNat):Nat):Int)) (hz:=(l1.length:Int)) c2),⟨⟨rfl,rfl,trivial⟩,(.o .nil)⟩⟩
  ·refine Z08 _ rfl ?_
   cases h
   exact ⟨_,_,.nil,(.o .nil),⟨_,rfl,⟨rfl,rfl⟩⟩⟩
def Z76 (y1:(Bool×LI)) (k1:Int->Option (Int×Bool)) (k2:Int->Int->Option (Int×Bool)) (i1:Int) (i2:Int):Option (Int×Bool) :=
 br ((decide (i2<(y1.2.length:Int)))) (
 chk (inB i2 y1.2.length) <|
 bnd (y1.2.getD (i2).toNat 0) fun z1 =>
 bnd (wrap .u64 z1) fun z2 =>
 bnd (wrap .i64 (8*i2)) fun z3 =>
 chk (decide (0<=z3)) <|
 bnd (Zn .u64 z2 z3) fun z4 =>
 bnd (Z4 .or .u64 i1 z4) fun z5 =>
 bnd (wrap .i64 (i2+1)) fun z6 =>
 k2 z5 z6
 ) (
 k1 i1
 )
def Z3p (y1:(Bool×LI)) (k1:Int->Option (Int×Bool)):Nat->Int->Int->Option (Int×Bool)
  | 0,_,_=>none
  | n+1,i1,i2=>Z76 y1 k1 (Z3p y1 k1 n) i1 i2
def Z71 (p0:LI) (p1:Int):Option (Int×Bool) :=
 opt (Z4r p0 p1) fun y1 =>
 jn (fun (i1:Int)=>some (i1,(!y1.1))) fun k1=>Z3p y1 k1 big 0 0
theorem Z9k {W:World} {r:Int×Bool} {p0:LI} {p1:Int} {v0:Value} (h:Z71 p0 p1=some r) (A0:Z6r (El.int .u8) W v0 p0) :
    Calls Tryz.prog 389 [v0,.int .i64 (p1)].toArray W (Z1w W (.tuple #[.int .u64 (r.1),.bool (r.2)])):=by
 unfold Z71 at h
 refine Z9 mo Z0xu rfl ?_
 refine Z0<|Z1<|Z7 rfl<|Z7 rfl<|Z2<|Z0<|Z1<|Z7 rfl<|Z2<|Z0<|oH h fun y1 f1 h=>Z1<|Z7 rfl<|Z7 rfl<|Za (Zg rfl (fun w hw=>Za3  f1 ((Z1n A0 Z20) w hw)) fun v5 o1 R1=>?_)
 obtain ⟨_,rfl,rfl,P10,N8,H9⟩:=R1
 refine Z7 rfl<|Z2<|Z0<|Z0<|Z1<|Z7 rfl<|Zq _ (Z40 rfl P10)<|Z7 rfl<|Z2<|jH h fun k1 q1 h=>Zo (G:=fun t m=>∃ (i1:Int),k1 i1=some r/\Fit [(6,.int .u64 (i1)),(7,v5)] [] t m) ?_ ?_
 ·refine Zb<|Zz (fun n1 t m=>∃ (i2:Int) (i3:Int),Z3p y1 k1 n1 i2 i3=some r/\Fit [(6,.int .u64 (i2)),(7,v5),(13,v5),(14,.int .i64 ((y1.2.length:Int))),(15,.int .i64 (i3))] [] t m) big ?_ ?_
  ·exact ⟨0,0,h,⟨⟨rfl,rfl,rfl,rfl,rfl,trivial⟩,.nil⟩⟩
  ·rintro n1 t m ⟨i2,i3,h,hF⟩
   refine Zi hF ?_
   clear hF
   rcases n1 with _ | n1
   · exact Z0s h
   have h:Z76 y1 k1 (Z3p y1 k1 n1) i2 i3=some r:=h
   unfold Z76 at h
   obtain ⟨k2,q2⟩ : ∃ k,k=Z3p y1 k1 n1:=⟨_,rfl⟩
   try rw [<- q2] at h
   refine Z0<|Z1<|j_c rfl<|Z2<|Z0<|Z0k h rfl (fun h=>?_) (fun h=>?_)
   ·refine Zp<|Z0<|Zb<|Z0<|cH h fun c1 h=>bH h fun z1 e1 h=>Z1<|Z7 rfl<|Zq _ (Z48 rfl rfl P10 c1)<|Zq _ (iz e1 (Z4y (E:=(El.int .u8)) (s:=[.one (.int .u8 (y1.2.getD (i3).toNat 0))]) rfl (Z03g H9 (Z1n A0 Z20)) (Z0g c1) rfl rfl))<|Z7 rfl<|Z7 rfl<|Z2<|bH h fun z2 e2 h=>bH h fun z3 e3 h=>cH h fun c2 h=>bH h fun z4 e4 h=>bH h fun z5 e5 h=>Z1<|Z7 rfl<|Z7 rfl<|j_v e2 rfl<|Z7 rfl<|j_b e3 rfl<|Zq _ (iz e4 (Zno rfl rfl (of_decide_eq_true c2)))<|j_b e5 rfl<|Z7 rfl<|Z2<|bH h fun z6 e6 h=>Z1<|j_b e6 rfl<|Z7 rfl<|Z2 ?_
    rw [q2] at h
    exact ⟨n1,Nat.lt_succ_self _,z5,z6,h,⟨⟨rfl,rfl,rfl,rfl,rfl,trivial⟩,.nil⟩⟩
   ·exact Z08 _ rfl<|⟨i2,h,⟨⟨rfl,rfl,trivial⟩,.nil⟩⟩
 ·rintro t m ⟨i1,h,hF⟩
  refine Zi hF ?_
  clear hF
  subst q1
  refine Z0<|Z1<|Z7 rfl<|Z7 rfl<|Zq _ (Z08z rfl P10 N8)<|Z7 rfl<|Z7 rfl<|Z2<|Zf ?_
  cases h
  exact ⟨_,(.cons (.tmp rfl) (.cons (.tmp rfl) .nil)),rfl⟩
def Z6y (z1:Int) (k1:(LI)->OL) (k2:Int->(LI)->Int->OL) (i1:Int) (l1:LI) (i2:Int):OL :=
 br ((decide (i2<((replicate (z1).toNat 0:LI).length:Int)))) (
 bnd (wrap .u8 i1) fun z2 =>
 chk (inB i2 l1.length) <|
 bnd (Zh7 0 l1 (i2).toNat z2) fun l2 =>
 bnd (Zx .u64 i1 8) fun z3 =>
 bnd (wrap .i64 (i2+1)) fun z4 =>
 k2 z3 l2 z4
 ) (
 k1 l1
 )
def Z3d (z1:Int) (k1:(LI)->OL):Nat->Int->(LI)->Int->OL
  | 0,_,_,_=>none
  | n+1,i1,l1,i2=>Z6y z1 k1 (Z3d z1 k1 n) i1 l1 i2
def Z8u (p0:Int):OL :=
 opt (Z3h) fun y1 =>
 bnd (wrap .i64 (Int.tdiv y1 8)) fun z1 =>
 chk (mkB 1 z1 z1) <|
 jn (fun (l1:LI)=>some l1) fun k1=>Z3d z1 k1 big p0 (replicate (z1).toNat 0:LI) 0
theorem Zf7 {W:World} {r:(LI)} {p0:Int} (h:Z8u p0=some r)  :
    Calls Tryz.prog 472 [.int .u64 (p0)].toArray W (Z67 W [] (fun v Ms=>∃ (u0:Value) (M1:List Zd),v=u0/\Ms = [.all M1]/\Z0c (El.int .u8) u0 M1 r)):=by
 unfold Z8u at h
 refine Zj mo Z0z6 rfl (Zbz _) ?_
 refine Z0<|Z1<|Z7 rfl<|Z2<|Z0<|oH h fun y1 f1 h=>bH h fun z1 e1 h=>cH h fun c1 h=>Z1<|Z2o rfl (Z52 f1)<|Zq _ (iz e1 (Zbl rfl rfl (by decide)))<|Za (Zk6 (E:=(El.int .u8)) rfl rfl rfl c1 fun v6 w1 O1=>Z7 rfl<|Z2<|Z0<|Z0<|Z1<|Z7 rfl<|Zq _ (Z40 rfl (Shp.own O1))<|Z7 rfl<|Z2<|jH h fun k1 q1 h=>Zo (G:=fun t m=>∃ (l1:LI) (v62:Value) (w2:List Zd),k1 l1=some r/\Z0c (El.int .u8) v62 w2 l1/\Fit [(3,v62)] (w2 ++ []) t m) ?_ ?_)
 ·refine Zb<|Zz (fun n1 t m=>∃ (i1:Int) (l2:LI) (i2:Int) (v99:Value) (w3:List Zd),Z3d z1 k1 n1 i1 l2 i2=some r/\Z0c (El.int .u8) v99 w3 l2/\Fit [(0,.int .u64 (i1)),(3,v99),(9,.int .i64 (((replicate (z1).toNat 0:LI).length:Int))),(10,.int .i64 (i2))] (w3 ++ []) t m) big ?_ ?_
  ·exact ⟨p0,(replicate (z1).toNat 0:LI),0,v6,w1,h,O1,⟨⟨rfl,rfl,rfl,rfl,trivial⟩,(.all .here .nil)⟩⟩
  ·rintro n1 t m ⟨i1,l2,i2,v99,w3,h,O2,hF⟩
   refine Zi hF ?_
   clear hF
   rcases n1 with _ | n1
   · exact Z0s h
   have h:Z6y z1 k1 (Z3d z1 k1 n1) i1 l2 i2=some r:=h
   unfold Z6y at h
   obtain ⟨k2,q2⟩ : ∃ k,k=Z3d z1 k1 n1:=⟨_,rfl⟩
   try rw [<- q2] at h
   refine Z0<|Z1<|j_c rfl<|Z2<|Z0<|Z0k h rfl (fun h=>?_) (fun h=>?_)
   ·refine Zp<|Z0<|Zb<|Z0<|Z1<|Z7 rfl<|Z7 rfl<|Z2<|Z0<|bH h fun z2 e2 h=>cH h fun c2 h=>bH h fun l3 g1 h=>Z1<|Z7 rfl<|Z7 rfl<|Z7 rfl<|j_v e2 rfl<|Zq _ (Z48 rfl rfl (Shp.own O2) c2)<|Za (Zmu (E:=(El.int .u8)) g1 O2 .here rfl rfl rfl (Z0g c2) fun w4 O3=>Z2<|bH h fun z3 e3 h=>Z1<|Z7 rfl<|Zq _ (iz e3 (Z61 rfl rfl (by decide)))<|Z7 rfl<|Z2<|bH h fun z4 e4 h=>Z1<|j_b e4 rfl<|Z7 rfl<|Z2 ?_)
    rw [q2] at h
    exact ⟨n1,Nat.lt_succ_self _,z3,l3,z4,v99,w4,h,O3,⟨⟨rfl,rfl,rfl,rfl,trivial⟩,(.all .here .nil)⟩⟩
   ·exact Z08 _ rfl<|⟨l2,v99,w3,h,O2,⟨⟨rfl,trivial⟩,(.all .here .nil)⟩⟩
 ·rintro t m ⟨l1,v62,w2,h,O4,hF⟩
  refine Zi hF ?_
  clear hF
  subst q1
  refine Z0<|Z1<|Z7 rfl<|Z7 rfl<|Z2<|Zf ?_
  cases h
  exact ⟨_,_,(.cons (.tmp rfl) .nil),(.all .here .nil),⟨_,rfl,⟨v62,w2,rfl,rfl,O4⟩⟩⟩
def Zdu (p0:LI) (k1:(LI)->OL) (k2:Int->(LI)->OL) (i1:Int) (a1:LI):OL :=
 br ((decide (i1<4))) (
 chk (inB i1 4) <|
 bnd (p0.getD (i1).toNat 0) fun z1 =>
 bnd (wrap .i64 (8*i1)) fun z2 =>
 chk (Zqi z2 32 32) <|
 opt (Z8u z1) fun y1 =>
 bnd (wr a1 (z2).toNat (y1.take (32-(z2).toNat))) fun l1 =>
 bnd (wrap .i64 (i1+1)) fun z3 =>
 k2 z3 l1
 ) (
 k1 a1
 )
def Z7t (p0:LI) (k1:(LI)->OL):Nat->Int->(LI)->OL
  | 0,_,_=>none
  | n+1,i1,a1=>Zdu p0 k1 (Z7t p0 k1 n) i1 a1
def Z7s (p0:LI):OL :=
 jn (fun (a1:LI)=>some a1) fun k1=>Z7t p0 k1 big 0 (replicate 32 0)
theorem Zal {W:World} {r:(LI)} {p0:LI} (h:Z7s p0=some r)  :
    Calls Tryz.prog 391 [agg [.ints .u64 4 (p0)]].toArray W (Z1w W (agg [b3' r])):=by
 unfold Z7s at h
 refine Z9 mo Z0xw rfl ?_
 refine Z0<|Z1<|Za (Z02 (s:=[.ints .u64 4 (p0)]) rfl fun b1 u1=>Za (Zu fun b2 u2=>Z2<|Z0<|Z1<|Za (Zu fun b3 u3=>Z2<|Z0<|Z0<|Z1<|Z0z (p:=[.ints .u64 4 (p0)]) rfl .t2 rfl<|Z7 rfl<|Z2<|jH h fun k1 q1 h=>Zo (G:=fun t m=>∃ (a1:LI),k1 a1=some r/\Fit [(2,pt' b2),(3,pt' b3)] (ck b3 149 [b3' a1]::(ck b2 149 [b3' (replicate 32 0)]::(ck b1 321 [.ints .u64 4 (p0)] :: []))) t m) ?_ ?_)))
 ·refine Zb<|Zz (fun n1 t m=>∃ (i1:Int) (a2:LI),Z7t p0 k1 n1 i1 a2=some r/\Fit [(2,pt' b2),(3,pt' b3),(6,agg [.ints .u64 4 (p0)]),(7,.int .i64 (i1))] (ck b3 149 [b3' a2]::(ck b2 149 [b3' (replicate 32 0)]::(ck b1 321 [.ints .u64 4 (p0)] :: []))) t m) big ?_ ?_
  ·exact ⟨0,(replicate 32 0),h,⟨⟨rfl,rfl,rfl,rfl,trivial⟩,(.o (.o (.o .nil)))⟩⟩
  ·rintro n1 t m ⟨i1,a2,h,hF⟩
   refine Zi hF ?_
   clear hF
   rcases n1 with _ | n1
   · exact Z0s h
   have h:Zdu p0 k1 (Z7t p0 k1 n1) i1 a2=some r:=h
   unfold Zdu at h
   obtain ⟨k2,q2⟩ : ∃ k,k=Z7t p0 k1 n1:=⟨_,rfl⟩
   try rw [<- q2] at h
   refine Z0<|Z1<|j_c rfl<|Z2<|Z0<|Z0k h rfl (fun h=>?_) (fun h=>?_)
   ·refine Zp<|Z0<|Zb<|Z0<|cH h fun c1 h=>bH h fun z1 e1 h=>Z1<|Z7 rfl<|Zq _ (iz e1 (Zn6 (len:=4) rfl rfl (Z0q c1)))<|Z7 rfl<|Z7 rfl<|Z2<|bH h fun z2 e2 h=>cH h fun c2 h=>oH h fun y1 f1 h=>bH h fun l1 g1 h=>Zv<|k_m rfl<|k_b e2 rfl<|Z0x _ (Z8b rfl (.yes rfl) .no .no (by simp) (cut4 c2))<|k_m rfl<|Z36 (Zg rfl (fun w hw=>Zf7  f1 ) fun v105 o1 R1=>?_)
    obtain ⟨_,w1,rfl,rfl,O1⟩:=R1
    refine ⟨sU,Z16 rfl (Zlw (q:=[b3' l1]) (lo:=(z2).toNat) (hi:=32) (mz:=32) (base:=0) g1 rfl rfl (Z0l O1 .here) rfl (cutn c2) rfl (.app .here) (Z03 (bH h fun z3 e3 h=>Z1 (j_b e3 rfl (Z7 rfl (Z2 ?_))))))⟩
    rw [q2] at h
    exact ⟨n1,Nat.lt_succ_self _,z3,l1,h,⟨⟨rfl,rfl,rfl,rfl,trivial⟩,(.one (.app .here) (.one (.app .here) (.one (.app .here) .nil)))⟩⟩
   ·exact Z08 _ rfl<|⟨a2,h,⟨⟨rfl,rfl,trivial⟩,(.o (.o (.o .nil)))⟩⟩
 ·rintro t m ⟨a1,h,hF⟩
  refine Zi hF ?_
  clear hF
  subst q1
  refine Z0<|Z1<|Z0z (p:=[b3' a1]) rfl .here rfl<|Za (Zm (q:=[b3' a1]) rfl rfl rfl rfl rfl .t1<|Z2<|Zf ?_)
  cases h
  exact ⟨_,(.cons (.agg rfl .t1 rfl) .nil),rfl⟩
def Z7q (p1:LI) (k1:Int->(LI)->Option ((LI)×Int)) (k2:Int->Int->(LI)->Option ((LI)×Int)) (i1:Int) (i2:Int) (a1:LI):Option ((LI)×Int) :=
 br ((decide (i2<4))) (
 chk (inB i2 4) <|
 chk (inB i2 4) <|
 bnd (a1.getD (i2).toNat 0) fun z1 =>
 bnd (p1.getD (i2).toNat 0) fun z2 =>
 chk (Z04i z1 z2 i1) <|
 bnd (Z080 z1 z2 i1) fun z3 =>
 bnd (Z07z z1 z2 i1) fun z4 =>
 chk (inB i2 4) <|
 bnd (Z2g a1 (i2).toNat z3) fun l1 =>
 bnd (wrap .i64 (i2+1)) fun z5 =>
 k2 z4 z5 l1
 ) (
 k1 i1 a1
 )
def Z33 (p1:LI) (k1:Int->(LI)->Option ((LI)×Int)):Nat->Int->Int->(LI)->Option ((LI)×Int)
  | 0,_,_,_=>none
  | n+1,i1,i2,a1=>Z7q p1 k1 (Z33 p1 k1 n) i1 i2 a1
def Z9f (p0:LI) (p1:LI):Option ((LI)×Int) :=
 jn (fun (i1:Int) (a1:LI)=>some (a1,i1)) fun k1=>Z33 p1 k1 big 0 0 p0
theorem Zg3 {W:World} {r:(LI)×Int} {p0:LI} {p1:LI} (h:Z9f p0 p1=some r)  :
    Calls Tryz.prog 254 [agg [.ints .u64 4 (p0)],agg [.ints .u64 4 (p1)]].toArray W (Z1w W (.tuple #[agg [.ints .u64 4 (r.1)],.int .u64 (r.2)])):=by
 unfold Z9f at h
 refine Z9 mo Z0v6 rfl ?_
 refine Z0<|Z1<|Za (Z02 (s:=[.ints .u64 4 (p0)]) rfl fun b1 u1=>Za (Z02 (s:=[.ints .u64 4 (p1)]) rfl fun b2 u2=>Za (Zu fun b3 u3=>Z7 rfl<|Z2<|Z0<|Z1<|Z7 rfl<|Z2<|Z0<|Z0<|Z1<|Z7 rfl<|Z2<|jH h fun k1 q1 h=>Zo (G:=fun t m=>∃ (i1:Int) (a1:LI),k1 i1 a1=some r/\Fit [(2,pt' b1),(4,pt' b3),(6,.int .u64 (i1))] (ck b3 321 [.ints .u64 4 ((replicate 4 0))]::(ck b2 321 [.ints .u64 4 (p1)]::(ck b1 321 [.ints .u64 4 (a1)] :: []))) t m) ?_ ?_)))
 ·refine Zb<|Zz (fun n1 t m=>∃ (i2:Int) (i3:Int) (a2:LI),Z33 p1 k1 n1 i2 i3 a2=some r/\Fit [(2,pt' b1),(3,pt' b2),(4,pt' b3),(6,.int .u64 (i2)),(8,.int .i64 (i3))] (ck b3 321 [.ints .u64 4 ((replicate 4 0))]::(ck b2 321 [.ints .u64 4 (p1)]::(ck b1 321 [.ints .u64 4 (a2)] :: []))) t m) big ?_ ?_
  ·exact ⟨0,0,p0,h,⟨⟨rfl,rfl,rfl,rfl,rfl,trivial⟩,(.o (.o (.o .nil)))⟩⟩
  ·rintro n1 t m ⟨i2,i3,a2,h,hF⟩
   refine Zi hF ?_
   clear hF
   rcases n1 with _ | n1
   · exact Z0s h
   have h:Z7q p1 k1 (Z33 p1 k1 n1) i2 i3 a2=some r:=h
   unfold Z7q at h
   obtain ⟨k2,q2⟩ : ∃ k,k=Z33 p1 k1 n1:=⟨_,rfl⟩
   try rw [<- q2] at h
   refine Z0<|Z1<|j_c rfl<|Z2<|Z0<|Z0k h rfl (fun h=>?_) (fun h=>?_)
   ·refine Zp<|Z0<|Zb<|Z0<|Z1<|Z7 rfl<|Z7 rfl<|Z2<|cH h fun c1 h=>cH h fun c2 h=>bH h fun z1 e1 h=>bH h fun z2 e2 h=>cH h fun c3 h=>bH h fun z3 e3 h=>bH h fun z4 e4 h=>cH h fun c4 h=>bH h fun l1 g1 h=>Zv<|k_m rfl<|k_m rfl<|Z6v rfl rfl (Z0q c1)<|k_m rfl<|Z6v rfl rfl (Z0q c2)<|k_m rfl<|Z0v _ (iz e1 (Z32 (base:=0) rfl .t2 rfl (Z0g c1)))<|Z0v _ (iz e2 (Z32 (base:=0) rfl .t1 rfl (Z0g c2)))<|Z0x _ (Zih rfl Z0as (xsub e3 e4 c3))<|k_m rfl<|Z0x _ (Zpp rfl rfl)<|Z0x _ (Zpp rfl rfl)<|Z6v rfl rfl (Z0q c4)<|Z16 rfl (Z1z (q:=[.ints .u64 4 (l1)]) (base:=0) g1 rfl rfl rfl (Z0g c4) rfl .t2<|k_m rfl<|Z03<|bH h fun z5 e5 h=>Z1<|j_b e5 rfl<|Z7 rfl<|Z2 ?_)
    rw [q2] at h
    exact ⟨n1,Nat.lt_succ_self _,z4,z5,l1,h,⟨⟨rfl,rfl,rfl,rfl,rfl,trivial⟩,(.o (.o (.o .nil)))⟩⟩
   ·exact Z08 _ rfl<|⟨i2,a2,h,⟨⟨rfl,rfl,rfl,trivial⟩,(.o (.o (.o .nil)))⟩⟩
 ·rintro t m ⟨i1,a1,h,hF⟩
  refine Zi hF ?_
  clear hF
  subst q1
  refine Z0<|Z1<|Z0z (p:=[.ints .u64 4 (a1)]) rfl .t2 rfl<|Z7 rfl<|Za (Zm (q:=[.ints .u64 4 (a1)]) rfl rfl rfl rfl rfl .here<|Z7 rfl<|Z2<|Zf ?_)
  cases h
  exact ⟨_,(.cons (.agg rfl .here rfl) (.cons (.tmp rfl) .nil)),rfl⟩
def Z8r (p1:LI) (k1:Int->(LI)->Option ((LI)×Int)) (k2:Int->Int->(LI)->Option ((LI)×Int)) (i1:Int) (i2:Int) (a1:LI):Option ((LI)×Int) :=
 br ((decide (i2<4))) (
 chk (inB i2 4) <|
 chk (inB i2 4) <|
 bnd (a1.getD (i2).toNat 0) fun z1 =>
 bnd (p1.getD (i2).toNat 0) fun z2 =>
 chk (Zh9 z1 z2 i1) <|
 bnd (Zcv z1 z2 i1) fun z3 =>
 bnd (Zk4 z1 z2 i1) fun z4 =>
 chk (inB i2 4) <|
 bnd (Z2g a1 (i2).toNat z3) fun l1 =>
 bnd (wrap .i64 (i2+1)) fun z5 =>
 k2 z4 z5 l1
 ) (
 k1 i1 a1
 )
def Z3n (p1:LI) (k1:Int->(LI)->Option ((LI)×Int)):Nat->Int->Int->(LI)->Option ((LI)×Int)
  | 0,_,_,_=>none
  | n+1,i1,i2,a1=>Z8r p1 k1 (Z3n p1 k1 n) i1 i2 a1
def Z7r (p0:LI) (p1:LI):Option ((LI)×Int) :=
 jn (fun (i1:Int) (a1:LI)=>some (a1,i1)) fun k1=>Z3n p1 k1 big 0 0 p0
theorem Z8t {W:World} {r:(LI)×Int} {p0:LI} {p1:LI} (h:Z7r p0 p1=some r)  :
    Calls Tryz.prog 417 [agg [.ints .u64 4 (p0)],agg [.ints .u64 4 (p1)]].toArray W (Z1w W (.tuple #[agg [.ints .u64 4 (r.1)],.int .u64 (r.2)])):=by
 unfold Z7r at h
 refine Z9 mo Z0yc rfl ?_
 refine Z0<|Z1<|Za (Z02 (s:=[.ints .u64 4 (p0)]) rfl fun b1 u1=>Za (Z02 (s:=[.ints .u64 4 (p1)]) rfl fun b2 u2=>Za (Zu fun b3 u3=>Z7 rfl<|Z2<|Z0<|Z1<|Z7 rfl<|Z2<|Z0<|Z0<|Z1<|Z7 rfl<|Z2<|jH h fun k1 q1 h=>Zo (G:=fun t m=>∃ (i1:Int) (a1:LI),k1 i1 a1=some r/\Fit [(2,pt' b1),(4,pt' b3),(6,.int .u64 (i1))] (ck b3 321 [.ints .u64 4 ((replicate 4 0))]::(ck b2 321 [.ints .u64 4 (p1)]::(ck b1 321 [.ints .u64 4 (a1)] :: []))) t m) ?_ ?_)))
 ·refine Zb<|Zz (fun n1 t m=>∃ (i2:Int) (i3:Int) (a2:LI),Z3n p1 k1 n1 i2 i3 a2=some r/\Fit [(2,pt' b1),(3,pt' b2),(4,pt' b3),(6,.int .u64 (i2)),(8,.int .i64 (i3))] (ck b3 321 [.ints .u64 4 ((replicate 4 0))]::(ck b2 321 [.ints .u64 4 (p1)]::(ck b1 321 [.ints .u64 4 (a2)] :: []))) t m) big ?_ ?_
  ·exact ⟨0,0,p0,h,⟨⟨rfl,rfl,rfl,rfl,rfl,trivial⟩,(.o (.o (.o .nil)))⟩⟩
  ·rintro n1 t m ⟨i2,i3,a2,h,hF⟩
   refine Zi hF ?_
   clear hF
   rcases n1 with _ | n1
   · exact Z0s h
   have h:Z8r p1 k1 (Z3n p1 k1 n1) i2 i3 a2=some r:=h
   unfold Z8r at h
   obtain ⟨k2,q2⟩ : ∃ k,k=Z3n p1 k1 n1:=⟨_,rfl⟩
   try rw [<- q2] at h
   refine Z0<|Z1<|j_c rfl<|Z2<|Z0<|Z0k h rfl (fun h=>?_) (fun h=>?_)
   ·refine Zp<|Z0<|Zb<|Z0<|Z1<|Z7 rfl<|Z7 rfl<|Z2<|cH h fun c1 h=>cH h fun c2 h=>bH h fun z1 e1 h=>bH h fun z2 e2 h=>cH h fun c3 h=>bH h fun z3 e3 h=>bH h fun z4 e4 h=>cH h fun c4 h=>bH h fun l1 g1 h=>Zv<|k_m rfl<|k_m rfl<|Z6v rfl rfl (Z0q c1)<|k_m rfl<|Z6v rfl rfl (Z0q c2)<|k_m rfl<|Z0v _ (iz e1 (Z32 (base:=0) rfl .t2 rfl (Z0g c1)))<|Z0v _ (iz e2 (Z32 (base:=0) rfl .t1 rfl (Z0g c2)))<|Z0x _ (Zih rfl Zk7 (xadd e3 e4 c3))<|k_m rfl<|Z0x _ (Zpp rfl rfl)<|Z0x _ (Zpp rfl rfl)<|Z6v rfl rfl (Z0q c4)<|Z16 rfl (Z1z (q:=[.ints .u64 4 (l1)]) (base:=0) g1 rfl rfl rfl (Z0g c4) rfl .t2<|k_m rfl<|Z03<|bH h fun z5 e5 h=>Z1<|j_b e5 rfl<|Z7 rfl<|Z2 ?_)
    rw [q2] at h
    exact ⟨n1,Nat.lt_succ_self _,z4,z5,l1,h,⟨⟨rfl,rfl,rfl,rfl,rfl,trivial⟩,(.o (.o (.o .nil)))⟩⟩
   ·exact Z08 _ rfl<|⟨i2,a2,h,⟨⟨rfl,rfl,rfl,trivial⟩,(.o (.o (.o .nil)))⟩⟩
 ·rintro t m ⟨i1,a1,h,hF⟩
  refine Zi hF ?_
  clear hF
  subst q1
  refine Z0<|Z1<|Z0z (p:=[.ints .u64 4 (a1)]) rfl .t2 rfl<|Z7 rfl<|Za (Zm (q:=[.ints .u64 4 (a1)]) rfl rfl rfl rfl rfl .here<|Z7 rfl<|Z2<|Zf ?_)
  cases h
  exact ⟨_,(.cons (.agg rfl .here rfl) (.cons (.tmp rfl) .nil)),rfl⟩
def Z7p (k1:(LI)->OL) (a1:LI) (k2:Unit->OL) (k3:Int->OL) (i1:Int):OL :=
 br ((decide (i1≥0))) (
 chk (inB i1 4) <|
 chk (inB i1 4) <|
 bnd (a1.getD (i1).toNat 0) fun z1 =>
 bnd (G_order.getD (i1).toNat 0) fun z2 =>
 br ((decide (z1<z2))) (
 k1 a1
 ) (
 chk (inB i1 4) <|
 chk (inB i1 4) <|
 bnd (a1.getD (i1).toNat 0) fun z3 =>
 bnd (G_order.getD (i1).toNat 0) fun z4 =>
 br ((decide (z3>z4))) (
 k2 ()
 ) (
 bnd (wrap .i64 (i1-1)) fun z5 =>
 k3 z5
 )
 )
 ) (
 k2 ()
 )
def Z13 (k1:(LI)->OL) (a1:LI) (k2:Unit->OL):Nat->Int->OL
  | 0,_=>none
  | n+1,i1=>Z7p k1 a1 k2 (Z13 k1 a1 k2 n) i1
def Z7o (k1:(LI)->OL) (k2:(LI)->OL) (a1:LI):OL :=
 jn (fun (_:Unit)=>opt (Z9f a1 G_order) fun y1 =>
 k2 y1.1) fun k3=>Z13 k1 a1 k3 big 3
def Z41 (k1:(LI)->OL):Nat->(LI)->OL
  | 0,_=>none
  | n+1,a1=>Z7o k1 (Z41 k1 n) a1
def Z9e (p0:LI):OL :=
 jn (fun (a1:LI)=>some a1) fun k1=>Z41 k1 big p0
theorem Zg2 {W:World} {r:(LI)} {p0:LI} (h:Z9e p0=some r) (hG:Globs W) :
    Calls Tryz.prog 419 [agg [.ints .u64 4 (p0)]].toArray W (Z1w W (agg [.ints .u64 4 (r)])):=by
 unfold Z9e at h
 refine Z9 mo Z0ye rfl ?_
 refine Z0<|Z1<|Za (Z02 (s:=[.ints .u64 4 (p0)]) rfl fun b1 u1=>Za (Zu fun b2 u2=>Z2<|Z08d<|Z0<|Z0p7<|Z0<|jH h fun k1 q1 h=>Zo (G:=fun t m=>∃ (a1:LI),k1 a1=some r/\Fit [(1,pt' b1),(2,pt' b2)] (ck b2 321 [.ints .u64 4 ((replicate 4 0))]::(ck b1 321 [.ints .u64 4 (a1)] :: [])) t m) ?_ ?_))
 ·refine Zb<|Zz (fun n1 t m=>∃ (a2:LI),Z41 k1 n1 a2=some r/\Fit [(1,pt' b1),(2,pt' b2)] (ck b2 321 [.ints .u64 4 ((replicate 4 0))]::(ck b1 321 [.ints .u64 4 (a2)] :: [])) t m) big ?_ ?_
  ·exact ⟨p0,h,⟨⟨rfl,rfl,trivial⟩,(.o (.o .nil))⟩⟩
  ·rintro n1 t m ⟨a2,h,hF⟩
   refine Zi hF ?_
   clear hF
   rcases n1 with _ | n1
   · exact Z0s h
   have h:Z7o k1 (Z41 k1 n1) a2=some r:=h
   unfold Z7o at h
   obtain ⟨k2,q2⟩ : ∃ k,k=Z41 k1 n1:=⟨_,rfl⟩
   try rw [<- q2] at h
   refine Zb<|Z0<|Z0<|Z1<|Z7 rfl<|Z2<|jH h fun k3 q3 h=>Zo (G:=fun t m=>k3 ()=some r/\Fit [(1,pt' b1),(2,pt' b2)] (ck b2 321 [.ints .u64 4 ((replicate 4 0))]::(ck b1 321 [.ints .u64 4 (a2)] :: [])) t m) ?_ ?_
   ·refine Zb<|Zz (fun n2 t m=>∃ (i1:Int),Z13 k1 a2 k3 n2 i1=some r/\Fit [(1,pt' b1),(2,pt' b2),(3,.int .i64 (i1))] (ck b2 321 [.ints .u64 4 ((replicate 4 0))]::(ck b1 321 [.ints .u64 4 (a2)] :: [])) t m) big ?_ ?_
    ·exact ⟨3,h,⟨⟨rfl,rfl,rfl,trivial⟩,(.o (.o .nil))⟩⟩
    ·rintro n2 t m ⟨i1,h,hF⟩
     refine Zi hF ?_
     clear hF
     rcases n2 with _ | n2
     · exact Z0s h
     have h:Z7p k1 a2 k3 (Z13 k1 a2 k3 n2) i1=some r:=h
     unfold Z7p at h
     obtain ⟨k4,q4⟩ : ∃ k,k=Z13 k1 a2 k3 n2:=⟨_,rfl⟩
     try rw [<- q4] at h
     refine Z0<|Z0<|Z1<|Z7 rfl<|j_c rfl<|Z2<|Z0k h rfl (fun h=>?_) (fun h=>?_)
     ·refine Zp<|Z0<|Zb<|Z0<|Z0<|cH h fun c1 h=>cH h fun c2 h=>bH h fun z1 e1 h=>bH h fun z2 e2 h=>Zv<|k_m rfl<|Z6v rfl rfl (Z0q c1)<|k_m rfl<|Z6v rfl rfl (Z0q c2)<|Z0v _ (iz e1 (Z32 (base:=0) rfl .t1 rfl (Z0g c1)))<|Z0v _ (iz e2 (Z037 rfl (hG.g1) (by simp) (Z0g c2)))<|Z0x _ (Zbk rfl rfl rfl)<|Z03<|Z0k h rfl (fun h=>?_) (fun h=>?_)
      ·exact Z08 _ rfl<|⟨a2,h,⟨⟨rfl,rfl,trivial⟩,(.o (.o .nil))⟩⟩
      ·refine Zp<|Z0<|cH h fun c3 h=>cH h fun c4 h=>bH h fun z3 e3 h=>bH h fun z4 e4 h=>Zv<|k_m rfl<|Z6v rfl rfl (Z0q c3)<|k_m rfl<|Z6v rfl rfl (Z0q c4)<|Z0v _ (iz e3 (Z32 (base:=0) rfl .t1 rfl (Z0g c3)))<|Z0v _ (iz e4 (Z037 rfl (hG.g1) (by simp) (Z0g c4)))<|Z0x _ (Zbk rfl rfl rfl)<|Z03<|Z0k h rfl (fun h=>?_) (fun h=>?_)
       ·exact Z08 _ rfl<|⟨h,⟨⟨rfl,rfl,trivial⟩,(.o (.o .nil))⟩⟩
       ·refine Zp<|bH h fun z5 e5 h=>Z1<|Z7 rfl<|j_b e5 rfl<|Z7 rfl<|Z2 ?_
        rw [q4] at h
        exact ⟨n2,Nat.lt_succ_self _,z5,h,⟨⟨rfl,rfl,rfl,trivial⟩,(.o (.o .nil))⟩⟩
     ·exact Z08 _ rfl<|⟨h,⟨⟨rfl,rfl,trivial⟩,(.o (.o .nil))⟩⟩
   ·rintro t m ⟨h,hF⟩
    refine Zi hF ?_
    clear hF
    subst q3
    refine oH h fun y1 f1 h=>Z1<|Z0z (p:=[.ints .u64 4 (a2)]) rfl .t1 rfl<|Zq _ (Z004 (o0:=0) (off:=0) rfl (hG.g1) (by simp) rfl)<|Z2o rfl (Zg3 f1)<|Z7 rfl<|Zf1 rfl rfl<|Zf1 rfl rfl<|Za (Zm (q:=[.ints .u64 4 (y1.1)]) rfl rfl rfl rfl rfl .t1<|Z2 ?_)
    rw [q2] at h
    exact ⟨n1,Nat.lt_succ_self _,y1.1,h,⟨⟨rfl,rfl,trivial⟩,(.o (.o .nil))⟩⟩
 ·rintro t m ⟨a1,h,hF⟩
  refine Zi hF ?_
  clear hF
  subst q1
  refine Z0<|Z1<|Z0z (p:=[.ints .u64 4 (a1)]) rfl .t1 rfl<|Za (Zm (q:=[.ints .u64 4 (a1)]) rfl rfl rfl rfl rfl .here<|Z2<|Zf ?_)
  cases h
  exact ⟨_,(.cons (.agg rfl .here rfl) .nil),rfl⟩
def Z5z (p0:Int) (p1:Int):Option (Int×Int) :=
 bnd (Z4 .and .u64 p0 4294967295) fun z1 =>
 bnd (Zx .u64 p0 32) fun z2 =>
 bnd (Z4 .and .u64 p1 4294967295) fun z3 =>
 bnd (Zx .u64 p1 32) fun z4 =>
 bnd (wrap .u64 (z1*z3)) fun z5 =>
 bnd (wrap .u64 (z2*z3)) fun z6 =>
 bnd (Zx .u64 z5 32) fun z7 =>
 bnd (wrap .u64 (z6+z7)) fun z8 =>
 bnd (Z4 .and .u64 z8 4294967295) fun z9 =>
 bnd (Zx .u64 z8 32) fun z10 =>
 bnd (wrap .u64 (z1*z4)) fun z11 =>
 bnd (wrap .u64 (z9+z11)) fun z12 =>
 bnd (wrap .u64 (z2*z4)) fun z13 =>
 bnd (wrap .u64 (z13+z10)) fun z14 =>
 bnd (Zx .u64 z12 32) fun z15 =>
 bnd (wrap .u64 (z14+z15)) fun z16 =>
 bnd (wrap .u64 (p0*p1)) fun z17 =>
 some (z16,z17)
theorem Zc4 {W:World} {r:Int×Int} {p0:Int} {p1:Int} (h:Z5z p0 p1=some r)  :
    Calls Tryz.prog 468 [.int .u64 (p0),.int .u64 (p1)].toArray W (Z1w W (.tuple #[.int .u64 (r.1),.int .u64 (r.2)])):=by
 unfold Z5z at h
 refine Z9 mo Z0z2 rfl ?_
 refine Z0<|Z1<|Z7 rfl<|Z7 rfl<|Z2<|Z0<|bH h fun z1 e1 h=>Z1<|Z7 rfl<|j_b e1 rfl<|Z7 rfl<|Z2<|Z0<|bH h fun z2 e2 h=>Z1<|Z7 rfl<|Zq _ (iz e2 (Z61 rfl rfl (by decide)))<|Z7 rfl<|Z2<|Z0<|bH h fun z3 e3 h=>Z1<|Z7 rfl<|j_b e3 rfl<|Z7 rfl<|Z2<|Z0<|bH h fun z4 e4 h=>Z1<|Z7 rfl<|Zq _ (iz e4 (Z61 rfl rfl (by decide)))<|Z7 rfl<|Z2<|Z0<|bH h fun z5 e5 h=>Z1<|Z7 rfl<|Z7 rfl<|j_b e5 rfl<|Z7 rfl<|Z2<|Z0<|bH h fun z6 e6 h=>bH h fun z7 e7 h=>bH h fun z8 e8 h=>Z1<|Z7 rfl<|Z7 rfl<|j_b e6 rfl<|Z7 rfl<|Zq _ (iz e7 (Z61 rfl rfl (by decide)))<|j_b e8 rfl<|Z7 rfl<|Z2<|Z0<|bH h fun z9 e9 h=>Z1<|Z7 rfl<|j_b e9 rfl<|Z7 rfl<|Z2<|Z0<|bH h fun z10 e10 h=>Z1<|Z7 rfl<|Zq _ (iz e10 (Z61 rfl rfl (by decide)))<|Z7 rfl<|Z2<|Z0<|bH h fun z11 e11 h=>bH h fun z12 e12 h=>Z1<|Z7 rfl<|Z7 rfl<|Z7 rfl<|j_b e11 rfl<|j_b e12 rfl<|Z7 rfl<|Z2<|Z0<|bH h fun z13 e13 h=>bH h fun z14 e14 h=>bH h fun z15 e15 h=>bH h fun z16 e16 h=>Z1<|Z7 rfl<|Z7 rfl<|j_b e13 rfl<|Z7 rfl<|j_b e14 rfl<|Z7 rfl<|Zq _ (iz e15 (Z61 rfl rfl (by decide)))<|j_b e16 rfl<|Z7 rfl<|Z2<|Z0<|bH h fun z17 e17 h=>Z1<|Z7 rfl<|Z7 rfl<|j_b e17 rfl<|Z7 rfl<|Z2<|Zf ?_
 cases h
 exact ⟨_,(.cons (.tmp rfl) (.cons (.tmp rfl) .nil)),rfl⟩
def Z7v (p1:LI) (i1:Int) (z1:Int) (k1:(LI)->Int->OL) (k2:(LI)->Int->Int->OL) (l1:LI) (i2:Int) (i3:Int):OL :=
 br ((decide (i3<(p1.length:Int)))) (
 chk (inB i3 p1.length) <|
 bnd (p1.getD (i3).toNat 0) fun z2 =>
 opt (Z5z z1 z2) fun y1 =>
 bnd (wrap .i64 (i1+i3)) fun z3 =>
 chk (inB z3 l1.length) <|
 bnd (l1.getD (z3).toNat 0) fun z4 =>
 chk (Zh9 y1.2 z4 0) <|
 bnd (Zcv y1.2 z4 0) fun z5 =>
 bnd (Zk4 y1.2 z4 0) fun z6 =>
 bnd (wrap .u64 (y1.1+z6)) fun z7 =>
 chk (Zh9 z5 i2 0) <|
 bnd (Zcv z5 i2 0) fun z8 =>
 bnd (Zk4 z5 i2 0) fun z9 =>
 bnd (wrap .i64 (i1+i3)) fun z10 =>
 bnd (wrap .u64 (z7+z9)) fun z11 =>
 chk (inB z10 l1.length) <|
 bnd (Zh7 0 l1 (z10).toNat z8) fun l2 =>
 bnd (wrap .i64 (i3+1)) fun z12 =>
 k2 l2 z11 z12
 ) (
 k1 l1 i2
 )
def Z43 (p1:LI) (i1:Int) (z1:Int) (k1:(LI)->Int->OL):Nat->(LI)->Int->Int->OL
  | 0,_,_,_=>none
  | n+1,l1,i2,i3=>Z7v p1 i1 z1 k1 (Z43 p1 i1 z1 k1 n) l1 i2 i3
def Z7u (p0:LI) (p1:LI) (k1:(LI)->OL) (k2:(LI)->Int->OL) (l1:LI) (i1:Int):OL :=
 br ((decide (i1<(p0.length:Int)))) (
 chk (inB i1 p0.length) <|
 bnd (p0.getD (i1).toNat 0) fun z1 =>
 jn (fun (l2:LI) (i2:Int)=>bnd (wrap .i64 (i1+(p1.length:Int))) fun z2 =>
 chk (inB z2 l2.length) <|
 bnd (Zh7 0 l2 (z2).toNat i2) fun l3 =>
 bnd (wrap .i64 (i1+1)) fun z3 =>
 k2 l3 z3) fun k3=>Z43 p1 i1 z1 k3 big l1 0 0
 ) (
 k1 l1
 )
def Z42 (p0:LI) (p1:LI) (k1:(LI)->OL):Nat->(LI)->Int->OL
  | 0,_,_=>none
  | n+1,l1,i1=>Z7u p0 p1 k1 (Z42 p0 p1 k1 n) l1 i1
def Z9h (p0:LI) (p1:LI):OL :=
 bnd (wrap .i64 ((p0.length:Int)+(p1.length:Int))) fun z1 =>
 chk (mkB 8 z1 z1) <|
 jn (fun (l1:LI)=>some l1) fun k1=>Z42 p0 p1 k1 big (replicate (z1).toNat 0:LI) 0
theorem Zg4 {W:World} {r:(LI)} {p0:LI} {p1:LI} {v0:Value} {v1:Value} (h:Z9h p0 p1=some r) (A0:Z6r (El.int .u64) W v0 p0) (A1:Z6r (El.int .u64) W v1 p1) :
    Calls Tryz.prog 420 [v0,v1].toArray W (Z67 W [] (fun v Ms=>∃ (u0:Value) (M1:List Zd),v=u0/\Ms = [.all M1]/\Z0c (El.int .u64) u0 M1 r)):=by
 unfold Z9h at h
 refine Zj mo Z0yf rfl (Zbz _) ?_
 refine Z0<|Z1<|Z7 rfl<|Z2<|Z0<|bH h fun z1 e1 h=>cH h fun c1 h=>Z1<|Z7 rfl<|Zq _ (Z40 rfl (Shp.rd A0))<|Z7 rfl<|Zq _ (Z40 rfl (Shp.rd A1))<|j_b e1 rfl<|Za (Zk6 (E:=(El.int .u64)) rfl rfl rfl c1 fun v5 w1 O1=>Z7 rfl<|Z2<|Z0<|Z0<|Z1<|Z7 rfl<|Zq _ (Z40 rfl (Shp.rd A0))<|Z7 rfl<|Z2<|jH h fun k1 q1 h=>Zo (G:=fun t m=>∃ (l1:LI) (v679:Value) (w2:List Zd),k1 l1=some r/\Z0c (El.int .u64) v679 w2 l1/\Fit [(5,v679)] (w2 ++ []) t m) ?_ ?_)
 ·refine Zb<|Zz (fun n1 t m=>∃ (l2:LI) (i1:Int) (v1126:Value) (w3:List Zd),Z42 p0 p1 k1 n1 l2 i1=some r/\Z0c (El.int .u64) v1126 w3 l2/\Fit [(1,v1),(5,v1126),(20,v0),(21,.int .i64 ((p0.length:Int))),(22,.int .i64 (i1))] (w3 ++ []) t m) big ?_ ?_
  ·exact ⟨(replicate (z1).toNat 0:LI),0,v5,w1,h,O1,⟨⟨rfl,rfl,rfl,rfl,rfl,trivial⟩,(.all .here .nil)⟩⟩
  ·rintro n1 t m ⟨l2,i1,v1126,w3,h,O2,hF⟩
   refine Zi hF ?_
   clear hF
   rcases n1 with _ | n1
   · exact Z0s h
   have h:Z7u p0 p1 k1 (Z42 p0 p1 k1 n1) l2 i1=some r:=h
   unfold Z7u at h
   obtain ⟨k2,q2⟩ : ∃ k,k=Z42 p0 p1 k1 n1:=⟨_,rfl⟩
   try rw [<- q2] at h
   refine Z0<|Z1<|j_c rfl<|Z2<|Z0<|Z0k h rfl (fun h=>?_) (fun h=>?_)
   ·refine Zp<|Z0<|Zb<|Z0<|cH h fun c2 h=>bH h fun z2 e2 h=>Z1<|Z7 rfl<|Zq _ (Z48 rfl rfl (Shp.rd A0) c2)<|Zq _ (iz e2 (Z4y (E:=(El.int .u64)) (s:=[.one (.int .u64 (p0.getD (i1).toNat 0))]) rfl (Z1n A0 Z20) (Z0g c2) rfl rfl))<|Z7 rfl<|Z7 rfl<|Z2<|Z0<|Z1<|Z7 rfl<|Z2<|Z0<|Z0<|Z1<|Z7 rfl<|Zq _ (Z40 rfl (Shp.rd A1))<|Z7 rfl<|Z2<|jH h fun k3 q3 h=>Zo (G:=fun t m=>∃ (l3:LI) (i2:Int) (v1240:Value) (w4:List Zd),k3 l3 i2=some r/\Z0c (El.int .u64) v1240 w4 l3/\Fit [(1,v1),(5,v1240),(6,.int .i64 (i1)),(8,.int .u64 (i2)),(20,v0),(21,.int .i64 ((p0.length:Int))),(22,.int .i64 (i1))] (w4 ++ []) t m) ?_ ?_
    ·refine Zb<|Zz (fun n2 t m=>∃ (l4:LI) (i3:Int) (i4:Int) (v1309:Value) (w5:List Zd),Z43 p1 i1 z2 k3 n2 l4 i3 i4=some r/\Z0c (El.int .u64) v1309 w5 l4/\Fit [(1,v1),(5,v1309),(6,.int .i64 (i1)),(7,.int .u64 (z2)),(8,.int .u64 (i3)),(20,v0),(21,.int .i64 ((p0.length:Int))),(22,.int .i64 (i1)),(27,v1),(28,.int .i64 ((p1.length:Int))),(29,.int .i64 (i4))] (w5 ++ []) t m) big ?_ ?_
     ·exact ⟨l2,0,0,v1126,w3,h,O2,⟨⟨rfl,rfl,rfl,rfl,rfl,rfl,rfl,rfl,rfl,rfl,rfl,trivial⟩,(.all .here .nil)⟩⟩
     ·rintro n2 t m ⟨l4,i3,i4,v1309,w5,h,O3,hF⟩
      refine Zi hF ?_
      clear hF
      rcases n2 with _ | n2
      · exact Z0s h
      have h:Z7v p1 i1 z2 k3 (Z43 p1 i1 z2 k3 n2) l4 i3 i4=some r:=h
      unfold Z7v at h
      obtain ⟨k4,q4⟩ : ∃ k,k=Z43 p1 i1 z2 k3 n2:=⟨_,rfl⟩
      try rw [<- q4] at h
      refine Z0<|Z1<|j_c rfl<|Z2<|Z0<|Z0k h rfl (fun h=>?_) (fun h=>?_)
      ·refine Zp<|Z0<|Zb<|Z0<|cH h fun c3 h=>bH h fun z3 e3 h=>Z1<|Z7 rfl<|Zq _ (Z48 rfl rfl (Shp.rd A1) c3)<|Zq _ (iz e3 (Z4y (E:=(El.int .u64)) (s:=[.one (.int .u64 (p1.getD (i4).toNat 0))]) rfl (Z1n A1 Z20) (Z0g c3) rfl rfl))<|Z7 rfl<|Z7 rfl<|Z2<|Z0<|oH h fun y1 f1 h=>Z1<|Z7 rfl<|Z7 rfl<|Z2o rfl (Zc4 f1)<|Z7 rfl<|Zf1 rfl rfl<|Zf1 rfl rfl<|Z7 rfl<|Z7 rfl<|Z2<|Z0<|bH h fun z4 e4 h=>cH h fun c4 h=>bH h fun z5 e5 h=>cH h fun c5 h=>bH h fun z6 e6 h=>bH h fun z7 e7 h=>Z1<|Z7 rfl<|Z7 rfl<|Z7 rfl<|Z7 rfl<|j_b e4 rfl<|Zq _ (Z48 rfl rfl (Shp.own O3) c4)<|Zq _ (iz e5 (Z4y (E:=(El.int .u64)) (s:=[.one (.int .u64 (l4.getD (z4).toNat 0))]) rfl (Z0l O3 .here) (Z0g c4) rfl rfl))<|Zq _ (Zih rfl Zk7 (xadd e6 e7 c5))<|Z7 rfl<|Zf1 rfl rfl<|Zf1 rfl rfl<|Z7 rfl<|Z7 rfl<|Z2<|Z0<|bH h fun z8 e8 h=>Z1<|Z7 rfl<|Z7 rfl<|j_b e8 rfl<|Z7 rfl<|Z2<|Z0<|cH h fun c6 h=>bH h fun z9 e9 h=>bH h fun z10 e10 h=>Z1<|Z7 rfl<|Z7 rfl<|Zq _ (Zih rfl Zk7 (xadd e9 e10 c6))<|Z7 rfl<|Zf1 rfl rfl<|Zf1 rfl rfl<|Z7 rfl<|Z7 rfl<|Z2<|bH h fun z11 e11 h=>bH h fun z12 e12 h=>cH h fun c7 h=>bH h fun l5 g1 h=>Z1<|Z7 rfl<|Z7 rfl<|Z7 rfl<|j_b e11 rfl<|Z7 rfl<|Z7 rfl<|Z7 rfl<|j_b e12 rfl<|Zq _ (Z48 rfl rfl (Shp.own O3) c7)<|Za (Zmu (E:=(El.int .u64)) g1 O3 .here rfl rfl rfl (Z0g c7) fun w6 O4=>Z7 rfl<|Z2<|bH h fun z13 e13 h=>Z1<|j_b e13 rfl<|Z7 rfl<|Z2 ?_)
       rw [q4] at h
       exact ⟨n2,Nat.lt_succ_self _,l5,z12,z13,v1309,w6,h,O4,⟨⟨rfl,rfl,rfl,rfl,rfl,rfl,rfl,rfl,rfl,rfl,rfl,trivial⟩,(.all .here .nil)⟩⟩
      ·exact Z08 _ rfl<|⟨l4,i3,v1309,w5,h,O3,⟨⟨rfl,rfl,rfl,rfl,rfl,rfl,rfl,trivial⟩,(.all .here .nil)⟩⟩
    ·rintro t m ⟨l3,i2,v1240,w4,h,O5,hF⟩
     refine Zi hF ?_
     clear hF
     subst q3
     refine bH h fun z14 e14 h=>cH h fun c8 h=>bH h fun l6 g2 h=>Z1<|Z7 rfl<|Z7 rfl<|Z7 rfl<|Zq _ (Z40 rfl (Shp.rd A1))<|j_b e14 rfl<|Z7 rfl<|Zq _ (Z48 rfl rfl (Shp.own O5) c8)<|Za (Zmu (E:=(El.int .u64)) g2 O5 .here rfl rfl rfl (Z0g c8) fun w7 O6=>Z2<|bH h fun z15 e15 h=>Z1<|j_b e15 rfl<|Z7 rfl<|Z2 ?_)
     rw [q2] at h
     exact ⟨n1,Nat.lt_succ_self _,l6,z15,v1240,w7,h,O6,⟨⟨rfl,rfl,rfl,rfl,rfl,trivial⟩,(.all .here .nil)⟩⟩
   ·exact Z08 _ rfl<|⟨l2,v1126,w3,h,O2,⟨⟨rfl,trivial⟩,(.all .here .nil)⟩⟩
 ·rintro t m ⟨l1,v679,w2,h,O7,hF⟩
  refine Zi hF ?_
  clear hF
  subst q1
  refine Z0<|Z1<|Z7 rfl<|Z7 rfl<|Z2<|Zf ?_
  cases h
  exact ⟨_,_,(.cons (.tmp rfl) .nil),(.all .here .nil),⟨_,rfl,⟨v679,w2,rfl,rfl,O7⟩⟩⟩
def Z51 (p0:LI) (k1:(LI)->Option ((LI)×(LI))) (k2:(LI)->Int->Option ((LI)×(LI))) (l1:LI) (i1:Int):Option ((LI)×(LI)) :=
 br ((decide (i1<(p0.length:Int)))) (
 chk (inB i1 p0.length) <|
 bnd (p0.getD (i1).toNat 0) fun z1 =>
 bnd (Zx .u64 z1 60) fun z2 =>
 bnd (wrap .i64 (i1+1)) fun z3 =>
 jn (fun (i2:Int)=>chk (decide ((l1.length+([i2]:LI).length)*8<=140737488355328)) <|
 bnd (l1++([i2]:LI)) fun l2 =>
 bnd (wrap .i64 (i1+1)) fun z4 =>
 k2 l2 z4) fun k3=>br ((decide (z3<(p0.length:Int)))) (
 bnd (wrap .i64 (i1+1)) fun z5 =>
 chk (inB z5 p0.length) <|
 bnd (p0.getD (z5).toNat 0) fun z6 =>
 bnd (Zn .u64 z6 4) fun z7 =>
 bnd (Z4 .or .u64 z2 z7) fun z8 =>
 k3 z8
 ) (
 k3 z2
 )
 ) (
 k1 l1
 )
def Z2f (p0:LI) (k1:(LI)->Option ((LI)×(LI))):Nat->(LI)->Int->Option ((LI)×(LI))
  | 0,_,_=>none
  | n+1,l1,i1=>Z51 p0 k1 (Z2f p0 k1 n) l1 i1
def Z9g (p0:LI):Option ((LI)×(LI)) :=
 bnd (wr (replicate 4 0) 0 (p0.take 4)) fun l1 =>
 bnd (l1.getD 3 0) fun z1 =>
 bnd (Z4 .and .u64 z1 1152921504606846975) fun z2 =>
 bnd (Z2g l1 3 z2) fun l2 =>
 jn (fun (l3:LI)=>some (l2,l3)) fun k1=>Z2f p0 k1 big [] 3
theorem Zmm {W:World} {r:(LI)×(LI)} {p0:LI} {v0:Value} (h:Z9g p0=some r) (A0:Z6r (El.int .u64) W v0 p0) :
    Calls Tryz.prog 473 [v0].toArray W (Z67 W [] (fun v Ms=>∃ (u1:Value) (M1:List Zd),v = .tuple #[agg [.ints .u64 4 (r.1)],u1]/\Ms = [.all M1]/\Z0c (El.int .u64) u1 M1 r.2)):=by
 unfold Z9g at h
 refine Zj mo Z0z7 rfl (Zbz _) ?_
 refine Z0<|Z1<|Za (Zu fun b1 hb1=>Z7 rfl<|Z2<|Z0<|Z1<|Za (Zu fun b2 hb2=>Z2<|Z0<|bH h fun l1 g1 h=>Z1<|Zq _ (Z8b rfl .no .no .no (by simp) (by decide))<|Z7 rfl<|Za (Zlw (q:=[.ints .u64 4 (l1)]) (lo:=0) (hi:=4) (mz:=4) (base:=0) (cpy0 g1) rfl rfl (Z1n A0 Z20) rfl (by decide) rfl .here<|Z2<|Z0<|bH h fun z1 e1 h=>bH h fun z2 e2 h=>bH h fun l2 g2 h=>Z1<|Z44 rfl rfl (by decide)<|j_i e1 rfl .here rfl<|j_b e2 rfl<|Z44 rfl rfl (by decide)<|Za (Z7a (q:=[.ints .u64 4 (l2)]) (congrArg (fun z=>([.ints .u64 4 (z)]:List Seg)) g2.symm) rfl rfl rfl rfl .here<|Z2<|Z0<|Z1<|Z7 rfl<|Z2<|Z0<|Z0<|Z1<|Z7 rfl<|Z2<|jH h fun k1 q1 h=>Zo (G:=fun t m=>∃ (l3:LI) (v126:Value) (w1:List Zd),k1 l3=some r/\Z0c (El.int .u64) v126 w1 l3/\Fit [(2,pt' b1),(4,pt' b2),(5,v126)] (ck b2 321 [.ints .u64 4 (l2)]::(ck b1 321 [.ints .u64 4 ((replicate 4 0))]::(w1 ++ []))) t m) ?_ ?_))))
 ·refine Zb<|Zz (fun n1 t m=>∃ (l4:LI) (i1:Int) (v202:Value) (w2:List Zd),Z2f p0 k1 n1 l4 i1=some r/\Z0c (El.int .u64) v202 w2 l4/\Fit [(0,v0),(2,pt' b1),(4,pt' b2),(5,v202),(6,.int .i64 (i1))] (ck b2 321 [.ints .u64 4 (l2)]::(ck b1 321 [.ints .u64 4 ((replicate 4 0))]::(w2 ++ []))) t m) big ?_ ?_
  ·exact ⟨[],3,(.slice none 0 0),[],h,Z3y,⟨⟨rfl,rfl,rfl,rfl,rfl,trivial⟩,(.o (.o (.no .nil)))⟩⟩
  ·rintro n1 t m ⟨l4,i1,v202,w2,h,O1,hF⟩
   refine Zi hF ?_
   clear hF
   rcases n1 with _ | n1
   · exact Z0s h
   have h:Z51 p0 k1 (Z2f p0 k1 n1) l4 i1=some r:=h
   unfold Z51 at h
   obtain ⟨k2,q2⟩ : ∃ k,k=Z2f p0 k1 n1:=⟨_,rfl⟩
   try rw [<- q2] at h
   refine Z0<|Z0<|Z1<|Z7 rfl<|Z7 rfl<|Zq _ (Z40 rfl (Shp.rd A0))<|j_c rfl<|Z2<|Z0k h rfl (fun h=>?_) (fun h=>?_)
   ·refine Zp<|Z0<|Zb<|Z0<|cH h fun c1 h=>bH h fun z3 e3 h=>bH h fun z4 e4 h=>Z1<|Z7 rfl<|Z7 rfl<|Zq _ (Z48 rfl rfl (Shp.rd A0) c1)<|Zq _ (iz e3 (Z4y (E:=(El.int .u64)) (s:=[.one (.int .u64 (p0.getD (i1).toNat 0))]) rfl (Z1n A0 Z20) (Z0g c1) rfl rfl))<|Zq _ (iz e4 (Z61 rfl rfl (by decide)))<|Z7 rfl<|Z2<|Z0<|Z0<|bH h fun z5 e5 h=>Z1<|Z7 rfl<|j_b e5 rfl<|Z7 rfl<|Zq _ (Z40 rfl (Shp.rd A0))<|j_c rfl<|Z2<|jH h fun k3 q3 h=>Zo (G:=fun t m=>∃ (i2:Int),k3 i2=some r/\Fit [(0,v0),(2,pt' b1),(4,pt' b2),(5,v202),(6,.int .i64 (i1)),(7,.int .u64 (i2))] (ck b2 321 [.ints .u64 4 (l2)]::(ck b1 321 [.ints .u64 4 ((replicate 4 0))]::(w2 ++ []))) t m) ?_ ?_
    ·refine Z0k h rfl (fun h=>?_) (fun h=>?_)
     ·exact bH h fun z6 e6 h=>cH h fun c2 h=>bH h fun z7 e7 h=>bH h fun z8 e8 h=>bH h fun z9 e9 h=>Z1<|Z7 rfl<|Z7 rfl<|Z7 rfl<|j_b e6 rfl<|Zq _ (Z48 rfl rfl (Shp.rd A0) c2)<|Zq _ (iz e7 (Z4y (E:=(El.int .u64)) (s:=[.one (.int .u64 (p0.getD (z6).toNat 0))]) rfl (Z1n A0 Z20) (Z0g c2) rfl rfl))<|Zq _ (iz e8 (Zno rfl rfl (by decide)))<|j_b e9 rfl<|Z7 rfl<|Z2<|⟨z9,h,⟨⟨rfl,rfl,rfl,rfl,rfl,rfl,trivial⟩,(.o (.o (.all .here .nil)))⟩⟩
     ·exact Zp<|⟨z4,h,⟨⟨rfl,rfl,rfl,rfl,rfl,rfl,trivial⟩,(.o (.o (.all .here .nil)))⟩⟩
    ·rintro t m ⟨i2,h,hF⟩
     refine Zi hF ?_
     clear hF
     subst q3
     refine cH h fun c3 h=>bH h fun l5 g3 h=>Z1<|Z7 rfl<|Z7 rfl<|Za (Z5q (E:=(El.int .u64)) (xs:=[i2]) (.one rfl rfl rfl BdR.nil) (.cons (p:=[.one (.int .u64 (i2))]) rfl .nil) rfl fun v234 w3 O2=>Za (Z3i (E:=(El.int .u64)) g3 rfl O1 (.app .t2) rfl (Z0l O2 .here) c3 fun v239 w4 O3=>Z7 rfl<|Z2<|bH h fun z10 e10 h=>Z1<|Z7 rfl<|j_b e10 rfl<|Z7 rfl<|Z2 ?_))
     rw [q2] at h
     exact ⟨n1,Nat.lt_succ_self _,l5,z10,v239,w4,h,O3,⟨⟨rfl,rfl,rfl,rfl,rfl,trivial⟩,(.one (.app (.app .here)) (.one (.app (.app .here)) (.all .here .nil)))⟩⟩
   ·exact Z08 _ rfl<|⟨l4,v202,w2,h,O1,⟨⟨rfl,rfl,rfl,trivial⟩,(.o (.o (.all .here .nil)))⟩⟩
 ·rintro t m ⟨l3,v126,w1,h,O4,hF⟩
  refine Zi hF ?_
  clear hF
  subst q1
  refine Z0<|Z1<|Z0z (p:=[.ints .u64 4 (l2)]) rfl .here rfl<|Z7 rfl<|Za (Zm (q:=[.ints .u64 4 (l2)]) rfl rfl rfl rfl rfl .t1<|Z7 rfl<|Z2<|Zf ?_)
  cases h
  exact ⟨_,_,(.cons (.agg rfl .t1 rfl) (.cons (.tmp rfl) .nil)),(.all .t2 .nil),⟨_,rfl,⟨v126,w1,rfl,rfl,O4⟩⟩⟩
def Zgr:OL :=
 some ([6346243789798364141,1503914060200516822]:LI)
theorem Znr {W:World} {r:(LI)} (h:Zgr=some r)  :
    Calls Tryz.prog 474 [].toArray W (Z67 W [] (fun v Ms=>∃ (u0:Value) (M1:List Zd),v=u0/\Ms = [.all M1]/\Z0c (El.int .u64) u0 M1 r)):=by
 unfold Zgr at h
 refine Zj mo Z0z8 rfl (Zbz _) ?_
 refine Z0<|Z1<|Z7 rfl<|Z2<|Z0<|Z1<|Za (Z5q (E:=(El.int .u64)) (xs:=[6346243789798364141,1503914060200516822]) (.one rfl rfl rfl (.one rfl rfl rfl BdR.nil)) (.cons (p:=[.one (.int .u64 (6346243789798364141))]) rfl (.cons (p:=[.one (.int .u64 (1503914060200516822))]) rfl .nil)) rfl fun v3 w1 O1=>Z7 rfl<|Z2<|Zf ?_)
 cases h
 exact ⟨_,_,(.cons (.tmp rfl) .nil),(.all .here .nil),⟨_,rfl,⟨v3,w1,rfl,rfl,O1⟩⟩⟩
abbrev Z5s:El (LI):=⟨4,fun x=>cells [.ints .u64 4 (x)],fun x=>by rw [cells_length]; rfl,fun x=>(Z1b Zb8 Z6f),by decide,(replicate 4 0)⟩
def Z6p (k1:(List (LI))->OL) (k2:(LI)->Int->(List (LI))->OL) (l1:LI) (i1:Int) (a1:List (LI)):OL :=
 br ((decide (i1<4))) (
 opt (Z9g l1) fun y1 =>
 bnd (Int.tmod i1 2) fun z1 =>
 bnd (Int.tmod i1 2) fun z2 =>
 chk (inB z2 2) <|
 bnd (a1.getD (z2).toNat (replicate 4 0)) fun x1 =>
 opt (Z7r x1 y1.1) fun y2 =>
 chk (inB z1 2) <|
 bnd (Zh7 (replicate 4 0) a1 (z1).toNat y2.1) fun l2 =>
 opt (Zgr ) fun y3 =>
 opt (Z9h y1.2 y3) fun y4 =>
 bnd (wrap .i64 (i1+1)) fun z3 =>
 k2 y4 z3 l2
 ) (
 k1 a1
 )
def Z2k (k1:(List (LI))->OL):Nat->(LI)->Int->(List (LI))->OL
  | 0,_,_,_=>none
  | n+1,l1,i1,a1=>Z6p k1 (Z2k k1 n) l1 i1 a1
def Z6l (p0:LI):OL :=
 jn (fun (a1:List (LI))=>opt (Z7r G_order G_order) fun y1 =>
 bnd (a1.getD 0 (replicate 4 0)) fun x1 =>
 opt (Z7r x1 y1.1) fun y2 =>
 bnd (a1.getD 1 (replicate 4 0)) fun x2 =>
 opt (Z9f y2.1 x2) fun y3 =>
 opt (Z9e y3.1) fun y4 =>
 some y4) fun k1=>Z2k k1 big p0 0 (replicate 2 (replicate 4 0))
theorem Z9y {W:World} {r:(LI)} {p0:LI} {v0:Value} (h:Z6l p0=some r) (hG:Globs W) (A0:Z6r (El.int .u64) W v0 p0) :
    Calls Tryz.prog 392 [v0].toArray W (Z1w W (agg [.ints .u64 4 (r)])):=by
 unfold Z6l at h
 refine Z9 mo Z0xx rfl ?_
 refine Z0<|Z1<|Za (Zu fun b1 u1=>Z2<|Z0<|Z1<|Za (Zou (z':=[.rows 4 2 (Zbp Z5s ((replicate 2 (replicate 4 0))))]) (Zga (E:=Z5s) rfl rfl) fun b2 u2=>Z2<|Z0<|Z0<|Z1<|Z7 rfl<|Z2<|jH h fun k1 q1 h=>Zo (G:=fun t m=>∃ (a1:List (LI)),k1 a1=some r/\Fit [(2,pt' b1),(3,pt' b2)] (ck b2 483 [.rows 4 2 (Zbp Z5s (a1))]::(ck b1 321 [.ints .u64 4 ((replicate 4 0))] :: [])) t m) ?_ ?_))
 ·refine Zb<|Zz (fun n1 t m=>∃ (l1:LI) (i1:Int) (a2:List (LI)) (v194:Value) (w1:List Zd),Z2k k1 n1 l1 i1 a2=some r/\Zr2 (⟨Tryz.prog,d392.n,W,[]⟩:Cfg) w1 (El.int .u64) v194 l1/\Shp v194 l1.length/\Fit [(0,v194),(2,pt' b1),(3,pt' b2),(10,.int .i64 (i1))] (ck b2 483 [.rows 4 2 (Zbp Z5s (a2))]::(ck b1 321 [.ints .u64 4 ((replicate 4 0))]::(w1 ++ []))) t m) big ?_ ?_
  ·exact ⟨p0,0,(replicate 2 (replicate 4 0)),v0,[],h,(Z1n A0 Z20),(Shp.rd A0),⟨⟨rfl,rfl,rfl,rfl,trivial⟩,(.o (.o (.no .nil)))⟩⟩
  ·rintro n1 t m ⟨l1,i1,a2,v194,w1,h,H197,Z198,hF⟩
   refine Zi hF ?_
   clear hF
   rcases n1 with _ | n1
   · exact Z0s h
   have h:Z6p k1 (Z2k k1 n1) l1 i1 a2=some r:=h
   unfold Z6p at h
   obtain ⟨k2,q2⟩ : ∃ k,k=Z2k k1 n1:=⟨_,rfl⟩
   try rw [<- q2] at h
   refine Z0<|Z1<|j_c rfl<|Z2<|Z0<|Z0k h rfl (fun h=>?_) (fun h=>?_)
   ·refine Zp<|Z0<|Zb<|Z0<|Z1<|Z7 rfl<|Z7 rfl<|Z2<|Z0<|Z1<|Za (Zu fun b3 u3=>Z2<|Z0<|oH h fun y1 f1 h=>Z1<|Z7 rfl<|Za (Zg rfl (fun w hw=>Zmm (r:=y1) (p0:=l1) f1 ((Z10f H197 .t3) w hw)) fun v210 Msv1 R1=>?_))
    obtain ⟨v212,w2,rfl,rfl,O1⟩:=R1
    refine Z7 rfl<|Zf1 rfl rfl<|Zf1 rfl rfl<|Za (Zm (q:=[.ints .u64 4 (y1.1)]) rfl rfl rfl rfl rfl (.app .here)<|Z7 rfl<|Z2<|Z0<|bH h fun z1 e1 h=>bH h fun z2 e2 h=>cH h fun c1 h=>bH h fun x1 j1 h=>oH h fun y2 f2 h=>cH h fun c2 h=>bH h fun l2 g1 h=>Zv<|k_m rfl<|Z0x _ (iz e1 (Zdp rfl rfl (by decide)))<|k_m rfl<|Z0x _ (iz e2 (Zdp rfl rfl (by decide)))<|Z6v rfl rfl (Z0q c1)<|Z0v _ (az (fun x1=>agg [.ints .u64 4 (x1)]) j1 (Zrn (base:=0) (w:=4) rfl (.app .t1) rfl (Z0g c1) rfl rfl rfl))<|Z1q (p:=[.ints .u64 4 (y1.1)]) rfl (.app .here) rfl<|Z0x _ (Z06 (vs:=[agg [.ints .u64 4 (x1)],agg [.ints .u64 4 (y1.1)]]) (v:=.tuple #[agg [.ints .u64 4 (y2.1)],.int .u64 (y2.2)]) rfl (fun w hw=>Z8t (r:=y2) (p0:=x1) (p1:=y1.1) f2 ))<|k_m rfl<|Z0x _ (Zpp rfl rfl)<|Z0x _ (Zpp rfl rfl)<|Z6v rfl rfl (Z0q c2)<|Z16 rfl (Zow (q:=[.rows 4 2 (Zbp Z5s (l2))]) (E:=Z5s) (base:=0) g1 rfl rfl rfl rfl (Z0g c2) rfl (.app .t1)<|Z03<|oH h fun y3 f3 h=>oH h fun y4 f4 h=>Z1<|Z7 rfl<|Za (Zg rfl (fun w hw=>Znr (r:=y3) f3 ) fun v225 Msv2 R2=>?_)))
    obtain ⟨_,w3,rfl,rfl,O2⟩:=R2
    refine Za (Zg rfl (fun w hw=>Zg4 (r:=y4) (p0:=y1.2) (p1:=y3) f4 ((Z0l O1 (.app .here)) w hw) ((Z0l O2 .here) w hw)) fun v231 Msv3 R3=>?_)
    obtain ⟨_,w4,rfl,rfl,O3⟩:=R3
    refine Z7 rfl<|Z2<|bH h fun z3 e3 h=>Z1<|j_b e3 rfl<|Z7 rfl<|Z2 ?_
    rw [q2] at h
    exact ⟨n1,Nat.lt_succ_self _,y4,z3,l2,v231,w4,h,(Z0cm O3),(Shp.own O3),⟨⟨rfl,rfl,rfl,rfl,trivial⟩,(.one (.app (.app (.app .t1))) (.one (.app (.app (.app .t1))) (.all .here .nil)))⟩⟩
   ·exact Z08 _ rfl<|⟨a2,h,⟨⟨rfl,rfl,trivial⟩,(.o (.o .nil))⟩⟩
 ·rintro t m ⟨a1,h,hF⟩
  refine Zi hF ?_
  clear hF
  subst q1
  refine Z0<|oH h fun y5 f5 h=>Z1<|Zq _ (Z004 (o0:=0) (off:=0) rfl (hG.g1) (by simp) rfl)<|Zq _ (Z004 (o0:=0) (off:=0) rfl (hG.g1) (by simp) rfl)<|Zq _ (Z06 (vs:=[agg [.ints .u64 4 (G_order)],agg [.ints .u64 4 (G_order)]]) (v:=.tuple #[agg [.ints .u64 4 (y5.1)],.int .u64 (y5.2)]) rfl (fun w hw=>Z8t (r:=y5) (p0:=G_order) (p1:=G_order) f5 ))<|Z7 rfl<|Zf1 rfl rfl<|Zf1 rfl rfl<|Za (Zu fun b4 u4=>Za (Zm (q:=[.ints .u64 4 (y5.1)]) rfl rfl rfl rfl rfl .here<|Z7 rfl<|Z2<|Z0<|bH h fun x2 j2 h=>oH h fun y6 f6 h=>Z1<|Z44 rfl rfl (by decide)<|Zq _ (az (fun x2=>agg [.ints .u64 4 (x2)]) j2 (Z0c5 (base:=0) (i:=0) (c:=0) (w:=4) (len:=2) rfl .t1 rfl (by decide) rfl rfl rfl))<|Z0z (p:=[.ints .u64 4 (y5.1)]) rfl .here rfl<|Zq _ (Z06 (vs:=[agg [.ints .u64 4 (x2)],agg [.ints .u64 4 (y5.1)]]) (v:=.tuple #[agg [.ints .u64 4 (y6.1)],.int .u64 (y6.2)]) rfl (fun w hw=>Z8t (r:=y6) (p0:=x2) (p1:=y5.1) f6 ))<|Z7 rfl<|Zf1 rfl rfl<|Zf1 rfl rfl<|Za (Zu fun b5 u5=>Za (Zm (q:=[.ints .u64 4 (y6.1)]) rfl rfl rfl rfl rfl .here<|Z7 rfl<|Z2<|Z0<|bH h fun x3 j3 h=>oH h fun y7 f7 h=>Z1<|Z0z (p:=[.ints .u64 4 (y6.1)]) rfl .here rfl<|Z44 rfl rfl (by decide)<|Zq _ (az (fun x3=>agg [.ints .u64 4 (x3)]) j3 (Z0c5 (base:=0) (i:=1) (c:=0) (w:=4) (len:=2) rfl .t2 rfl (by decide) rfl rfl rfl))<|Zq _ (Z06 (vs:=[agg [.ints .u64 4 (y6.1)],agg [.ints .u64 4 (x3)]]) (v:=.tuple #[agg [.ints .u64 4 (y7.1)],.int .u64 (y7.2)]) rfl (fun w hw=>Zg3 (r:=y7) (p0:=y6.1) (p1:=x3) f7 ))<|Z7 rfl<|Zf1 rfl rfl<|Zf1 rfl rfl<|Za (Zm (q:=[.ints .u64 4 (y7.1)]) rfl rfl rfl rfl rfl .here<|Z2<|Z0<|oH h fun y8 f8 h=>Z1<|Z0z (p:=[.ints .u64 4 (y7.1)]) rfl .here rfl<|Zq _ (Z06 (vs:=[agg [.ints .u64 4 (y7.1)]]) (v:=agg [.ints .u64 4 (y8)]) rfl (fun w hw=>Zg2 (r:=y8) (p0:=y7.1) f8 (hG.at hw (by simp))))<|Za (Zm (q:=[.ints .u64 4 (y8)]) rfl rfl rfl rfl rfl .t3<|Z2<|Zf ?_))))))
  cases h
  exact ⟨_,(.cons (.agg rfl .t3 rfl) .nil),rfl⟩
def Zc0 (p0:LI) (k1:(LI)->OL) (k2:Int->(LI)->OL) (i1:Int) (a1:LI):OL :=
 br ((decide (i1<8))) (
 bnd (wrap .i64 (8*i1)) fun z1 =>
 opt (Z71 (tk p0 0 64) z1) fun y1 =>
 chk (inB i1 8) <|
 bnd (Z2g a1 (i1).toNat y1.1) fun l1 =>
 bnd (wrap .i64 (i1+1)) fun z2 =>
 k2 z2 l1
 ) (
 k1 a1
 )
def Z59 (p0:LI) (k1:(LI)->OL):Nat->Int->(LI)->OL
  | 0,_,_=>none
  | n+1,i1,a1=>Zc0 p0 k1 (Z59 p0 k1 n) i1 a1
def Z6k (p0:LI):OL :=
 jn (fun (a1:LI)=>opt (Z6l (tk a1 0 8)) fun y1 =>
 opt (Z7s y1) fun y2 =>
 some y2) fun k1=>Z59 p0 k1 big 0 (replicate 8 0)
theorem Zlm {W:World} {r:(LI)} {p0:LI} (h:Z6k p0=some r) (hG:Globs W) :
    Calls Tryz.prog 258 [agg [b6' p0]].toArray W (Z1w W (agg [b3' r])):=by
 unfold Z6k at h
 refine Z9 mo Z0va rfl ?_
 refine Z0<|Z1<|Za (Z02 (s:=[b6' p0]) rfl fun b1 u1=>Za (Zu fun b2 u2=>Z2<|Z0<|Z1<|Za (Zu fun b3 u3=>Z2<|Z0<|Z0<|Z1<|Z7 rfl<|Z2<|jH h fun k1 q1 h=>Zo (G:=fun t m=>∃ (a1:LI),k1 a1=some r/\Fit [(2,pt' b2),(3,pt' b3)] (ck b3 230 [u8' a1]::(ck b2 149 [b3' (replicate 32 0)]::(ck b1 148 [b6' p0] :: []))) t m) ?_ ?_)))
 ·refine Zb<|Zz (fun n1 t m=>∃ (i1:Int) (a2:LI),Z59 p0 k1 n1 i1 a2=some r/\Fit [(1,pt' b1),(2,pt' b2),(3,pt' b3),(5,.int .i64 (i1))] (ck b3 230 [u8' a2]::(ck b2 149 [b3' (replicate 32 0)]::(ck b1 148 [b6' p0] :: []))) t m) big ?_ ?_
  ·exact ⟨0,(replicate 8 0),h,⟨⟨rfl,rfl,rfl,rfl,trivial⟩,(.o (.o (.o .nil)))⟩⟩
  ·rintro n1 t m ⟨i1,a2,h,hF⟩
   refine Zi hF ?_
   clear hF
   rcases n1 with _ | n1
   · exact Z0s h
   have h:Zc0 p0 k1 (Z59 p0 k1 n1) i1 a2=some r:=h
   unfold Zc0 at h
   obtain ⟨k2,q2⟩ : ∃ k,k=Z59 p0 k1 n1:=⟨_,rfl⟩
   try rw [<- q2] at h
   refine Z0<|Z1<|j_c rfl<|Z2<|Z0<|Z0k h rfl (fun h=>?_) (fun h=>?_)
   ·refine Zp<|Z0<|Zb<|Z0<|Z1<|Z7 rfl<|Z7 rfl<|Z2<|bH h fun z1 e1 h=>oH h fun y1 f1 h=>cH h fun c1 h=>bH h fun l1 g1 h=>Z1<|Z7 rfl<|Zq _ (Z8b rfl .no .no .no (by simp) (by decide))<|Z7 rfl<|j_b e1 rfl<|Zq _ (Z06 rfl (fun w hw=>Z9k f1 ((Z1u (s:=[b6' p0]) (N:=64) (k:=.u8) (base:=0) (lo:=0) (hi:=64) (mz:=64) .t2 rfl (by decide)) w hw)))<|Z7 rfl<|Zf1 rfl rfl<|Zf1 rfl rfl<|Z44 rfl rfl (Z0q c1)<|Za (Z1z (q:=[u8' l1]) (base:=0) g1 rfl rfl rfl (Z0g c1) rfl .here<|Z2<|bH h fun z2 e2 h=>Z1<|j_b e2 rfl<|Z7 rfl<|Z2 ?_)
    rw [q2] at h
    exact ⟨n1,Nat.lt_succ_self _,z2,l1,h,⟨⟨rfl,rfl,rfl,rfl,trivial⟩,(.o (.o (.o .nil)))⟩⟩
   ·exact Z08 _ rfl<|⟨a2,h,⟨⟨rfl,rfl,trivial⟩,(.o (.o (.o .nil)))⟩⟩
 ·rintro t m ⟨a1,h,hF⟩
  refine Zi hF ?_
  clear hF
  subst q1
  refine Z0<|oH h fun y2 f2 h=>oH h fun y3 f3 h=>Z1<|Zq _ (Z8b rfl .no .no .no (by simp) (by decide))<|Zq _ (Z06 rfl (fun w hw=>Z9y f2 (hG.at hw (by simp)) ((Z1u (s:=[u8' a1]) (N:=8) (k:=.u64) (base:=0) (lo:=0) (hi:=8) (mz:=8) .here rfl (by decide)) w hw)))<|Z2o rfl (Zal f3)<|Za (Zm (q:=[b3' y3]) rfl rfl rfl rfl rfl .t1<|Z2<|Zf ?_)
  cases h
  exact ⟨_,(.cons (.agg rfl .t1 rfl) .nil),rfl⟩
def Z6m (p0:Z00):Option (Z00×Z00) :=
 some (p0,p0)
theorem Zg5 {W:World} {r:Z00×Z00} {p0:Z00} {b:Nat} {T:TypeId} (h:Z6m p0=some r) (h0:Sat W [b] (ck b T (Z12 p0 []) :: []) W) :
    Calls Tryz.prog 393 [.pointer (some ⟨b,0,none⟩)].toArray W (Z67 W [b] (fun v Ms=>∃ (b1:Nat) (T0:TypeId),v = pt' b1/\Ms = [.one (ck b1 T0 (Z12 r.1 [])),.one (ck b T (Z12 r.2 []))])):=by
 unfold Z6m at h
 refine Zj mo Z0xy rfl h0 ?_
 refine Z0<|Z1<|Z7 rfl<|Z2<|Z0<|Z1<|Z7 rfl<|Zq _ (Z28 rfl)<|Z0z (p:=(Z12 p0 [])) rfl .here (by kernel_rfl)<|Za (Zu fun b2 u1=>Za (Zm (p:=(Z12 p0 [])) (q:=(Z12 p0 [])) rfl rfl (by kernel_rfl) (by kernel_rfl) (by kernel_rfl) .here<|Z2<|Z0<|Z1<|Z7 rfl<|Z2<|Zf ?_))
 cases h
 exact ⟨_,_,(.cons (.tmp rfl) .nil),(.o (.o .nil)),⟨_,rfl,⟨b2,452,rfl,rfl⟩⟩⟩
def Zcs (p0:Int):OL :=
 bnd (wrap .u64 (p0+17)) fun z1 =>
 bnd (Int.tmod z1 128) fun z2 =>
 bnd (wrap .i64 z2) fun z3 =>
 bnd (wrap .i64 (128-z3)) fun z4 =>
 bnd (Int.tmod z4 128) fun z5 =>
 bnd (wrap .i64 (17+z5)) fun z6 =>
 chk (mkB 1 0 z6) <|
 chk (decide (((replicate 0 0:LI).length+([128]:LI).length)*1<=140737488355328)) <|
 bnd ((replicate 0 0:LI)++([128]:LI)) fun l1 =>
 chk (decide (0<=z5)) <|
 chk (decide ((l1.length+(z5).toNat)*1<=140737488355328)) <|
 bnd (l1++replicate (z5).toNat 0) fun l2 =>
 bnd (Zx .u64 p0 61) fun z7 =>
 opt (Z2m z7) fun y1 =>
 chk (decide ((l2.length+y1.length)*1<=140737488355328)) <|
 bnd (l2++y1) fun l3 =>
 bnd (Zn .u64 p0 3) fun z8 =>
 opt (Z2m z8) fun y2 =>
 chk (decide ((l3.length+y2.length)*1<=140737488355328)) <|
 bnd (l3++y2) fun l4 =>
 some l4
theorem Zq6 {W:World} {r:(LI)} {p0:Int} (h:Zcs p0=some r)  :
    Calls Tryz.prog 394 [.int .u64 (p0)].toArray W (Z67 W [] (fun v Ms=>∃ (u0:Value) (M1:List Zd),v=u0/\Ms = [.all M1]/\Z0c (El.int .u8) u0 M1 r)):=by
 unfold Zcs at h
 refine Zj mo Z0xz rfl (Zbz _) ?_
 refine Z0<|Z1<|Z7 rfl<|Z2<|Z0<|bH h fun z1 e1 h=>bH h fun z2 e2 h=>bH h fun z3 e3 h=>bH h fun z4 e4 h=>bH h fun z5 e5 h=>Z1<|Z7 rfl<|j_b e1 rfl<|Zq _ (iz e2 (Zdp rfl rfl (by decide)))<|j_v e3 rfl<|j_b e4 rfl<|Zq _ (iz e5 (Zdp rfl rfl (by decide)))<|Z7 rfl<|Z2<|Z0<|bH h fun z6 e6 h=>cH h fun c1 h=>Z1<|Z7 rfl<|j_b e6 rfl<|Za (Zk6 (E:=(El.int .u8)) rfl rfl rfl c1 fun v11 w1 O1=>Z7 rfl<|Z2<|Z0<|cH h fun c2 h=>bH h fun l1 g1 h=>Z1<|Z7 rfl<|Za (Z5q (E:=(El.int .u8)) (xs:=[128]) (.one rfl rfl rfl BdR.nil) (.cons (p:=[.one (.int .u8 (128))]) rfl .nil) rfl fun v15 w2 O2=>Za (Z3i (E:=(El.int .u8)) g1 rfl O1 (.app .here) rfl (Z0l O2 .here) c2 fun v20 w3 O3=>Z7 rfl<|Z2<|Z0<|cH h fun c3 h=>cH h fun c4 h=>bH h fun l2 g2 h=>Z1<|Z7 rfl<|Z7 rfl<|Za (Z0ao (E:=(El.int .u8)) g2 rfl O3 .here rfl c3 rfl c4 fun v27 w4 O4=>Z7 rfl<|Z2<|Z0<|bH h fun z7 e7 h=>oH h fun y1 f1 h=>cH h fun c5 h=>bH h fun l3 g3 h=>Z1<|Z7 rfl<|Z7 rfl<|Zq _ (iz e7 (Z61 rfl rfl (by decide)))<|Za (Zg rfl (fun w hw=>Z45  f1 ) fun v33 o1 R1=>?_)))))
 obtain ⟨_,w5,rfl,rfl,O5⟩:=R1
 refine Za (Z3i (E:=(El.int .u8)) g3 rfl O4 (.app .here) rfl (Z0l O5 .here) c5 fun v40 w6 O6=>Z7 rfl<|Z2<|Z0<|bH h fun z8 e8 h=>oH h fun y2 f2 h=>cH h fun c6 h=>bH h fun l4 g4 h=>Z1<|Z7 rfl<|Z7 rfl<|Zq _ (iz e8 (Zno rfl rfl (by decide)))<|Za (Zg rfl (fun w hw=>Z45  f2 ) fun v46 o2 R2=>?_))
 obtain ⟨_,w7,rfl,rfl,O7⟩:=R2
 refine Za (Z3i (E:=(El.int .u8)) g4 rfl O6 (.app .here) rfl (Z0l O7 .here) c6 fun v53 w8 O8=>Z7 rfl<|Z2<|Zf ?_)
 cases h
 exact ⟨_,_,(.cons (.tmp rfl) .nil),(.all .here .nil),⟨_,rfl,⟨v53,w8,rfl,rfl,O8⟩⟩⟩
def Z8c (y1:Z00) (k1:(LI)->Option ((LI)×Z00)) (k2:Int->(LI)->Option ((LI)×Z00)) (i1:Int) (a1:LI):Option ((LI)×Z00) :=
 br ((decide (i1<8))) (
 chk (inB i1 8) <|
 bnd (y1.gstate.getD (i1).toNat 0) fun z1 =>
 bnd (wrap .i64 (8*i1)) fun z2 =>
 chk (Zqi z2 64 64) <|
 opt (Z2m z1) fun y2 =>
 bnd (wr a1 (z2).toNat (y2.take (64-(z2).toNat))) fun l1 =>
 bnd (wrap .i64 (i1+1)) fun z3 =>
 k2 z3 l1
 ) (
 k1 a1
 )
def Z39 (y1:Z00) (k1:(LI)->Option ((LI)×Z00)):Nat->Int->(LI)->Option ((LI)×Z00)
  | 0,_,_=>none
  | n+1,i1,a1=>Z8c y1 k1 (Z39 y1 k1 n) i1 a1
def Z3k (p0:Z00):Option ((LI)×Z00) :=
 opt (Z6m p0) fun y1 =>
 opt (Zcs y1.2.glength) fun y2 =>
 opt (Z1r y1.1 y2) fun y3 =>
 jn (fun (a1:LI)=>some (a1,y1.2)) fun k1=>Z39 y3 k1 big 0 (replicate 64 0)
theorem Za5 {W:World} {r:(LI)×Z00} {p0:Z00} {b:Nat} {T:TypeId} (h:Z3k p0=some r) (h0:Sat W [b] (ck b T (Z12 p0 []) :: []) W) (hG:Globs W) (hS : ∀ g,g<ng->g ∉ [b]) :
    Calls Tryz.prog 259 [.pointer (some ⟨b,0,none⟩)].toArray W (Z67 W [b] (fun v Ms=>v=agg [b6' r.1]/\Ms = [.one (ck b T (Z12 r.2 []))])):=by
 unfold Z3k at h
 refine Zj mo Z0vb rfl h0 ?_
 refine Z0<|Z1<|Za (Zu fun b1 u1=>Z2<|Z0<|oH h fun y1 f1 h=>Z1<|Z7 rfl<|Za (Z0j (mS:=[_]) rfl (Z4j.perm .t1) (fun w hw=>Zg5  f1 (Zey hw (mS:=[_]) (Z4j.perm .t1)) ) fun v5 o1 R1=>?_))
 obtain ⟨b2,T8,rfl,rfl⟩:=R1
 refine Z7 rfl<|Z2<|Z0<|oH h fun y2 f2 h=>oH h fun y3 f3 h=>Z1<|Z7 rfl<|Z7 rfl<|Zq _ (Z28 rfl)<|Z4c rfl<|Zky rfl .t1 rfl<|Za (Zg rfl (fun w hw=>Zq6  f2 ) fun v11 o2 R2=>?_)
 obtain ⟨_,w1,rfl,rfl,O1⟩:=R2
 refine Za (Z0j (mS:=[_]) rfl (Z4j.perm (.app .here)) (fun w hw=>Z63  f3 (Zey hw (mS:=[_]) (Z4j.perm (.app .here))) (hG.at hw hS) (hG.ap hS (.app .here) hw) ⟨(Z0l O1 .here) w hw,(Zcw (E:=(El.int .u8)) O1 .here .here hw)⟩) fun v17 o3 R3=>?_)
 obtain ⟨rfl,rfl⟩:=R3
 refine Z2<|Z0<|Z1<|Za (Zu fun b3 u2=>Z2<|Z0<|Z0<|Z1<|Z7 rfl<|Zq _ (Z28 rfl)<|Z4c rfl<|Z0z (p:=[u8' y3.gstate]) rfl .t1 (by kernel_rfl)<|Z7 rfl<|Z2<|jH h fun k1 q1 h=>Zo (G:=fun t m=>∃ (a1:LI),k1 a1=some r/\Fit [(2,pt' b1),(4,pt' b3)] (ck b3 148 [b6' a1]::(ck b2 T8 (Z12 y3 [])::(ck b T (Z12 y1.2 [])::(ck b1 148 [b6' (replicate 64 0)] :: [])))) t m) ?_ ?_)
 ·refine Zb<|Zz (fun n1 t m=>∃ (i1:Int) (a2:LI),Z39 y3 k1 n1 i1 a2=some r/\Fit [(2,pt' b1),(4,pt' b3),(19,agg [u8' y3.gstate]),(20,.int .i64 (i1))] (ck b3 148 [b6' a2]::(ck b2 T8 (Z12 y3 [])::(ck b T (Z12 y1.2 [])::(ck b1 148 [b6' (replicate 64 0)] :: [])))) t m) big ?_ ?_
  ·exact ⟨0,(replicate 64 0),h,⟨⟨rfl,rfl,rfl,rfl,trivial⟩,(.o (.o (.one (.app .here) (.one (.app .here) .nil))))⟩⟩
  ·rintro n1 t m ⟨i1,a2,h,hF⟩
   refine Zi hF ?_
   clear hF
   rcases n1 with _ | n1
   · exact Z0s h
   have h:Z8c y3 k1 (Z39 y3 k1 n1) i1 a2=some r:=h
   unfold Z8c at h
   obtain ⟨k2,q2⟩ : ∃ k,k=Z39 y3 k1 n1:=⟨_,rfl⟩
   try rw [<- q2] at h
   refine Z0<|Z1<|j_c rfl<|Z2<|Z0<|Z0k h rfl (fun h=>?_) (fun h=>?_)
   ·refine Zp<|Z0<|Zb<|Z0<|cH h fun c1 h=>bH h fun z1 e1 h=>Z1<|Z7 rfl<|Zq _ (iz e1 (Zn6 (len:=8) rfl rfl (Z0q c1)))<|Z7 rfl<|Z7 rfl<|Z2<|bH h fun z2 e2 h=>cH h fun c2 h=>oH h fun y4 f4 h=>bH h fun l1 g1 h=>Zv<|k_m rfl<|k_b e2 rfl<|Z0x _ (Z8b rfl (.yes rfl) .no .no (by simp) (cut4 c2))<|k_m rfl<|Z36 (Zg rfl (fun w hw=>Z45  f4 ) fun v120 o4 R4=>?_)
    obtain ⟨_,w2,rfl,rfl,O2⟩:=R4
    refine ⟨sU,Z16 rfl (Zlw (q:=[b6' l1]) (lo:=(z2).toNat) (hi:=64) (mz:=64) (base:=0) g1 rfl rfl (Z0l O2 .here) rfl (cutn c2) rfl (.app .here) (Z03 (bH h fun z3 e3 h=>Z1 (j_b e3 rfl (Z7 rfl (Z2 ?_))))))⟩
    rw [q2] at h
    exact ⟨n1,Nat.lt_succ_self _,z3,l1,h,⟨⟨rfl,rfl,rfl,rfl,trivial⟩,(.one (.app .here) (.one (.app .here) (.one (.app .here) (.one (.app .here) .nil))))⟩⟩
   ·exact Z08 _ rfl<|⟨a2,h,⟨⟨rfl,rfl,trivial⟩,(.o (.o (.o (.o .nil))))⟩⟩
 ·rintro t m ⟨a1,h,hF⟩
  refine Zi hF ?_
  clear hF
  subst q1
  refine Z0<|Z1<|Z0z (p:=[b6' a1]) rfl .here rfl<|Za (Zm (q:=[b6' a1]) rfl rfl rfl rfl rfl .t3<|Z2<|Zf ?_)
  cases h
  exact ⟨_,_,(.cons (.agg rfl .t3 rfl) .nil),(.one .t2 .nil),⟨_,rfl,⟨rfl,rfl⟩⟩⟩
def Zbs (p0:List (LI)) (k1:(LI)->(LI)->Int->Int->OL) (k2:Int->(LI)->(LI)->Int->Int->OL) (i1:Int) (a1:LI) (a2:LI) (i2:Int) (i3:Int):OL :=
 br ((decide (i1<(p0.length:Int)))) (
 chk (inB i1 p0.length) <|
 opt (Z1r (⟨a1,a2,i2,i3⟩:Z00) (p0.getD (i1).toNat [])) fun y1 =>
 bnd (wrap .i64 (i1+1)) fun z1 =>
 k2 z1 y1.gstate y1.gheld y1.ghave y1.glength
 ) (
 k1 a1 a2 i2 i3
 )
def Z6c (p0:List (LI)) (k1:(LI)->(LI)->Int->Int->OL):Nat->Int->(LI)->(LI)->Int->Int->OL
  | 0,_,_,_,_,_=>none
  | n+1,i1,a1,a2,i2,i3=>Zbs p0 k1 (Z6c p0 k1 n) i1 a1 a2 i2 i3
def Za0 (p0:List (LI)):OL :=
 opt (Zcr ) fun y1 =>
 jn (fun (a1:LI) (a2:LI) (i1:Int) (i2:Int)=>opt (Z3k (⟨a1,a2,i1,i2⟩:Z00)) fun y2 =>
 opt (Z6k y2.1) fun y3 =>
 some y3) fun k1=>Z6c p0 k1 big 0 y1.gstate y1.gheld y1.ghave y1.glength
theorem Zat {W:World} {r:(LI)} {p0:List (LI)} {v0:Value} {us0:List SlT} (h:Za0 p0=some r) (hG:Globs W) (A0:Z6r El.sl W v0 us0) (B0:Zng (El.int .u8) W us0 p0) :
    Calls Tryz.prog 155 [v0].toArray W (Z1w W (agg [b3' r])):=by
 unfold Za0 at h
 refine Z9 mo Z0th rfl ?_
 refine Z0<|Z1<|Za (Zu fun b1 u1=>Z2<|Z0<|oH h fun y1 f1 h=>Z1<|Za (Zg rfl (fun w hw=>Ziq  f1 (hG.at hw (by simp))) fun v5 o1 R1=>?_))
 obtain ⟨b2,T8,rfl,rfl⟩:=R1
 refine Z7 rfl<|Z2<|Z0<|Z0<|Z1<|Z7 rfl<|Zq _ ((Z0b4 (Z40 rfl (Shp.rd A0)) (Zng.len B0)))<|Z7 rfl<|Z2<|jH h fun k1 q1 h=>Zo (G:=fun t m=>∃ (a1:LI) (a2:LI) (i1:Int) (i2:Int),k1 a1 a2 i1 i2=some r/\Fit [(2,pt' b1),(3,pt' b2)] (ck b2 T8 [u8' a1,.ints .u8 128 (a2),.i i1,.one (.int .u64 (i2))]::(ck b1 149 [b3' (replicate 32 0)] :: [])) t m) ?_ ?_
 ·refine Zb<|Zz (fun n1 t m=>∃ (i3:Int) (a3:LI) (a4:LI) (i4:Int) (i5:Int),Z6c p0 k1 n1 i3 a3 a4 i4 i5=some r/\Fit [(2,pt' b1),(3,pt' b2),(7,v0),(8,.int .i64 ((p0.length:Int))),(9,.int .i64 (i3))] (ck b2 T8 [u8' a3,.ints .u8 128 (a4),.i i4,.one (.int .u64 (i5))]::(ck b1 149 [b3' (replicate 32 0)] :: [])) t m) big ?_ ?_
  ·exact ⟨0,y1.gstate,y1.gheld,y1.ghave,y1.glength,h,⟨⟨rfl,rfl,rfl,rfl,rfl,trivial⟩,(.o (.o .nil))⟩⟩
  ·rintro n1 t m ⟨i3,a3,a4,i4,i5,h,hF⟩
   refine Zi hF ?_
   clear hF
   rcases n1 with _ | n1
   · exact Z0s h
   have h:Zbs p0 k1 (Z6c p0 k1 n1) i3 a3 a4 i4 i5=some r:=h
   unfold Zbs at h
   obtain ⟨k2,q2⟩ : ∃ k,k=Z6c p0 k1 n1:=⟨_,rfl⟩
   try rw [<- q2] at h
   refine Z0<|Z1<|j_c rfl<|Z2<|Z0<|Z0k h rfl (fun h=>?_) (fun h=>?_)
   ·refine Zp<|Z0<|Zb<|Z0<|cH h fun c1 h=>Z1<|Zq _ (Z48 rfl rfl (Shp.rd A0) (Z014 B0 c1))<|Zq _ (Z4y (E:=El.sl) (s:=[.one (slV (us0.getD (i3).toNat (none,0,0)))]) rfl (Z1n A0 Z20) (Z0g (Z014 B0 c1)) rfl rfl)<|Z7 rfl<|Z2<|oH h fun y2 f2 h=>Z1<|Z7 rfl<|Z7 rfl<|Za (Z0j (mS:=[_]) rfl (Z4j.perm .here) (fun w hw=>Z63 (p0:=(⟨a3,a4,i4,i5⟩:Z00)) f2 (Zey hw (mS:=[_]) (Z4j.perm .here)) (hG.at hw (by simp)) (hG.ap (by simp) .here hw) ⟨(Z1n (Zng.get B0 _ (Z0g c1)) Z20) w hw,(Ztl (E:=(El.int .u8)) (Zng.get B0 _ (Z0g c1)) .here hw)⟩) fun v93 o2 R2=>?_)
    obtain ⟨rfl,rfl⟩:=R2
    refine Z2<|bH h fun z1 e1 h=>Z1<|j_b e1 rfl<|Z7 rfl<|Z2 ?_
    rw [q2] at h
    exact ⟨n1,Nat.lt_succ_self _,z1,y2.gstate,y2.gheld,y2.ghave,y2.glength,h,⟨⟨rfl,rfl,rfl,rfl,rfl,trivial⟩,(.o (.o .nil))⟩⟩
   ·exact Z08 _ rfl<|⟨a3,a4,i4,i5,h,⟨⟨rfl,rfl,trivial⟩,(.o (.o .nil))⟩⟩
 ·rintro t m ⟨a1,a2,i1,i2,h,hF⟩
  refine Zi hF ?_
  clear hF
  subst q1
  refine Z0<|oH h fun y3 f3 h=>oH h fun y4 f4 h=>Z1<|Z7 rfl<|Za (Z0j (mS:=[_]) rfl (Z4j.perm .here) (fun w hw=>Za5 (p0:=(⟨a1,a2,i1,i2⟩:Z00)) f3 (Zey hw (mS:=[_]) (Z4j.perm .here)) (hG.at hw (by simp)) (hG.ap (by simp) .here hw)) fun v99 o3 R3=>?_)
  obtain ⟨rfl,rfl⟩:=R3
  refine Zq _ (Z06 rfl (fun w hw=>Zlm f4 (hG.at hw (by simp))))<|Za (Zm (q:=[b3' y4]) rfl rfl rfl rfl rfl .t1<|Z2<|Zf ?_)
  cases h
  exact ⟨_,(.cons (.agg rfl .t1 rfl) .nil),rfl⟩
def Z5o (p0:LI):OL :=
 bnd (p0.getD 0 0) fun z1 =>
 bnd (Z4 .and .u64 z1 2251799813685247) fun z2 =>
 bnd (p0.getD 4 0) fun z3 =>
 bnd (Zx .u64 z3 51) fun z4 =>
 bnd (wrap .u64 (z4*19)) fun z5 =>
 bnd (wrap .u64 (z2+z5)) fun z6 =>
 bnd (p0.getD 1 0) fun z7 =>
 bnd (Z4 .and .u64 z7 2251799813685247) fun z8 =>
 bnd (p0.getD 0 0) fun z9 =>
 bnd (Zx .u64 z9 51) fun z10 =>
 bnd (wrap .u64 (z8+z10)) fun z11 =>
 bnd (p0.getD 2 0) fun z12 =>
 bnd (Z4 .and .u64 z12 2251799813685247) fun z13 =>
 bnd (p0.getD 1 0) fun z14 =>
 bnd (Zx .u64 z14 51) fun z15 =>
 bnd (wrap .u64 (z13+z15)) fun z16 =>
 bnd (p0.getD 3 0) fun z17 =>
 bnd (Z4 .and .u64 z17 2251799813685247) fun z18 =>
 bnd (p0.getD 2 0) fun z19 =>
 bnd (Zx .u64 z19 51) fun z20 =>
 bnd (wrap .u64 (z18+z20)) fun z21 =>
 bnd (p0.getD 4 0) fun z22 =>
 bnd (Z4 .and .u64 z22 2251799813685247) fun z23 =>
 bnd (p0.getD 3 0) fun z24 =>
 bnd (Zx .u64 z24 51) fun z25 =>
 bnd (wrap .u64 (z23+z25)) fun z26 =>
 bnd (([z6,z11,z16,z21,z26]:LI)) fun z27 =>
 some z27
theorem Z57 {W:World} {r:(LI)} {p0:LI} (h:Z5o p0=some r)  :
    Calls Tryz.prog 385 [agg [u5' p0]].toArray W (Z1w W (agg [u5' r])):=by
 unfold Z5o at h
 refine Z9 mo Z0xs rfl ?_
 refine Z0<|Z1<|Za (Z02 (s:=[u5' p0]) rfl fun b1 u1=>Za (Zu fun b2 u2=>Z2<|Z0<|bH h fun z1 e1 h=>bH h fun z2 e2 h=>bH h fun z3 e3 h=>bH h fun z4 e4 h=>bH h fun z5 e5 h=>bH h fun z6 e6 h=>bH h fun z7 e7 h=>bH h fun z8 e8 h=>bH h fun z9 e9 h=>bH h fun z10 e10 h=>bH h fun z11 e11 h=>bH h fun z12 e12 h=>bH h fun z13 e13 h=>bH h fun z14 e14 h=>bH h fun z15 e15 h=>bH h fun z16 e16 h=>bH h fun z17 e17 h=>bH h fun z18 e18 h=>bH h fun z19 e19 h=>bH h fun z20 e20 h=>bH h fun z21 e21 h=>bH h fun z22 e22 h=>bH h fun z23 e23 h=>bH h fun z24 e24 h=>bH h fun z25 e25 h=>bH h fun z26 e26 h=>bH h fun z27 e27 h=>Z1<|Z44 rfl rfl (by decide)<|j_i e1 rfl .t1 rfl<|j_b e2 rfl<|Z44 rfl rfl (by decide)<|j_i e3 rfl .t1 rfl<|Zq _ (iz e4 (Z61 rfl rfl (by decide)))<|j_b e5 rfl<|j_b e6 rfl<|Z44 rfl rfl (by decide)<|j_i e7 rfl .t1 rfl<|j_b e8 rfl<|Z44 rfl rfl (by decide)<|j_i e9 rfl .t1 rfl<|Zq _ (iz e10 (Z61 rfl rfl (by decide)))<|j_b e11 rfl<|Z44 rfl rfl (by decide)<|j_i e12 rfl .t1 rfl<|j_b e13 rfl<|Z44 rfl rfl (by decide)<|j_i e14 rfl .t1 rfl<|Zq _ (iz e15 (Z61 rfl rfl (by decide)))<|j_b e16 rfl<|Z44 rfl rfl (by decide)<|j_i e17 rfl .t1 rfl<|j_b e18 rfl<|Z44 rfl rfl (by decide)<|j_i e19 rfl .t1 rfl<|Zq _ (iz e20 (Z61 rfl rfl (by decide)))<|j_b e21 rfl<|Z44 rfl rfl (by decide)<|j_i e22 rfl .t1 rfl<|j_b e23 rfl<|Z44 rfl rfl (by decide)<|j_i e24 rfl .t1 rfl<|Zq _ (iz e25 (Z61 rfl rfl (by decide)))<|j_b e26 rfl<|Zq _ (az (fun z=>agg [.ints .u64 5 z]) e27 (Zex (.one rfl rfl rfl (.one rfl rfl rfl (.one rfl rfl rfl (.one rfl rfl rfl (.one rfl rfl rfl BdR.nil)))))))<|Za (Zm (q:=[u5' z27]) rfl rfl rfl rfl rfl .here<|Z2<|Zf ?_)))
 cases h
 exact ⟨_,(.cons (.agg rfl .here rfl) .nil),rfl⟩
def Zda (y1:(LI)) (k1:Int->OL) (k2:Int->Int->OL) (i1:Int) (i2:Int):OL :=
 br ((decide (i2<4))) (
 chk (inB i2 (tk y1 1 (5-1)).length) <|
 bnd ((tk y1 1 (5-1)).getD (i2).toNat 0) fun z1 =>
 bnd (wrap .u64 (z1+i1)) fun z2 =>
 bnd (Zx .u64 z2 51) fun z3 =>
 bnd (wrap .i64 (i2+1)) fun z4 =>
 k2 z3 z4
 ) (
 k1 i1
 )
def Z5x (y1:(LI)) (k1:Int->OL):Nat->Int->Int->OL
  | 0,_,_=>none
  | n+1,i1,i2=>Zda y1 k1 (Z5x y1 k1 n) i1 i2
def Zdb (k1:(LI)->OL) (k2:Int->(LI)->OL) (i1:Int) (a1:LI):OL :=
 br ((decide (i1<4))) (
 bnd (wrap .i64 (i1+1)) fun z1 =>
 chk (inB z1 5) <|
 chk (inB i1 5) <|
 bnd (a1.getD (z1).toNat 0) fun z2 =>
 bnd (a1.getD (i1).toNat 0) fun z3 =>
 bnd (Zx .u64 z3 51) fun z4 =>
 bnd (wrap .u64 (z2+z4)) fun z5 =>
 chk (inB z1 5) <|
 bnd (Z2g a1 (z1).toNat z5) fun l1 =>
 chk (inB i1 5) <|
 bnd (l1.getD (i1).toNat 0) fun z6 =>
 bnd (Z4 .and .u64 z6 2251799813685247) fun z7 =>
 chk (inB i1 5) <|
 bnd (Z2g l1 (i1).toNat z7) fun l2 =>
 bnd (wrap .i64 (i1+1)) fun z8 =>
 k2 z8 l2
 ) (
 k1 a1
 )
def Z5y (k1:(LI)->OL):Nat->Int->(LI)->OL
  | 0,_,_=>none
  | n+1,i1,a1=>Zdb k1 (Z5y k1 n) i1 a1
def Z2r (p0:LI):OL :=
 opt (Z5o p0) fun y1 =>
 opt (Z5o y1) fun y2 =>
 bnd (y2.getD 0 0) fun z1 =>
 bnd (wrap .u64 (z1+19)) fun z2 =>
 bnd (Zx .u64 z2 51) fun z3 =>
 jn (fun (i1:Int)=>bnd (y2.getD 0 0) fun z4 =>
 bnd (wrap .u64 (19*i1)) fun z5 =>
 bnd (wrap .u64 (z4+z5)) fun z6 =>
 bnd (Z2g y2 0 z6) fun l1 =>
 jn (fun (a1:LI)=>bnd (a1.getD 4 0) fun z7 =>
 bnd (Z4 .and .u64 z7 2251799813685247) fun z8 =>
 bnd (Z2g a1 4 z8) fun l2 =>
 some l2) fun k1=>Z5y k1 big 0 l1) fun k2=>Z5x y2 k2 big z3 0
theorem Z2s {W:World} {r:(LI)} {p0:LI} (h:Z2r p0=some r)  :
    Calls Tryz.prog 379 [agg [u5' p0]].toArray W (Z1w W (agg [u5' r])):=by
 unfold Z2r at h
 refine Z9 mo Z0xo rfl ?_
 refine Z0<|Z1<|Za (Z02 (s:=[u5' p0]) rfl fun b1 u1=>Za (Zu fun b2 u2=>Z2<|Z0<|oH h fun y1 f1 h=>oH h fun y2 f2 h=>Z1<|Z0z (p:=[u5' p0]) rfl .t1 rfl<|Z2o rfl (Z57 f1)<|Z2o rfl (Z57 f2)<|Za (Zm (q:=[u5' y2]) rfl rfl rfl rfl rfl .t1<|Z2<|Z0<|bH h fun z1 e1 h=>bH h fun z2 e2 h=>bH h fun z3 e3 h=>Z1<|Z44 rfl rfl (by decide)<|j_i e1 rfl .t1 rfl<|j_b e2 rfl<|Zq _ (iz e3 (Z61 rfl rfl (by decide)))<|Z7 rfl<|Z2<|Z0<|Z0<|Z1<|Zq _ (Z8b rfl (.yes rfl) .no .no (by simp) (by decide))<|Zq _ (Z06y rfl)<|Z7 rfl<|Z2<|jH h fun k1 q1 h=>Zo (G:=fun t m=>∃ (i1:Int),k1 i1=some r/\Fit [(1,pt' b1),(2,pt' b2),(3,.int .u64 (i1))] (ck b2 202 [u5' (replicate 5 0)]::(ck b1 202 [u5' y2] :: [])) t m) ?_ ?_)))
 ·refine Zb<|Zz (fun n1 t m=>∃ (i2:Int) (i3:Int),Z5x y2 k1 n1 i2 i3=some r/\Fit [(1,pt' b1),(2,pt' b2),(3,.int .u64 (i2)),(14,(.slice (some (Z4a b1 0 1 5 1)) (5-1) (5-1))),(15,.int .i64 4),(16,.int .i64 (i3))] (ck b2 202 [u5' (replicate 5 0)]::(ck b1 202 [u5' y2] :: [])) t m) big ?_ ?_
  ·exact ⟨z3,0,h,⟨⟨rfl,rfl,rfl,rfl,rfl,rfl,trivial⟩,(.o (.o .nil))⟩⟩
  ·rintro n1 t m ⟨i2,i3,h,hF⟩
   refine Zi hF ?_
   clear hF
   rcases n1 with _ | n1
   · exact Z0s h
   have h:Zda y2 k1 (Z5x y2 k1 n1) i2 i3=some r:=h
   unfold Zda at h
   obtain ⟨k2,q2⟩ : ∃ k,k=Z5x y2 k1 n1:=⟨_,rfl⟩
   try rw [<- q2] at h
   refine Z0<|Z1<|j_c rfl<|Z2<|Z0<|Z0k h rfl (fun h=>?_) (fun h=>?_)
   ·refine Zp<|Z0<|Zb<|Z0<|cH h fun c1 h=>bH h fun z4 e4 h=>Z1<|Zq _ (Z48 rfl rfl (Shp.blk (lo:=1) (hi:=5) (mz:=5) (by decide) (by simp [Z0o])) c1)<|Zq _ (iz e4 (Z4y (E:=(El.int .u64)) (s:=[.one (.int .u64 ((tk y2 1 (5-1)).getD (i3).toNat 0))]) rfl (Z1u (s:=[u5' y2]) (N:=5) (k:=.u64) (base:=0) (lo:=1) (hi:=5) (mz:=5) .t1 rfl (by decide)) (Z0g c1) rfl rfl))<|Z7 rfl<|Z2<|bH h fun z5 e5 h=>bH h fun z6 e6 h=>Z1<|Z7 rfl<|Z7 rfl<|j_b e5 rfl<|Zq _ (iz e6 (Z61 rfl rfl (by decide)))<|Z7 rfl<|Z2<|bH h fun z7 e7 h=>Z1<|j_b e7 rfl<|Z7 rfl<|Z2 ?_
    rw [q2] at h
    exact ⟨n1,Nat.lt_succ_self _,z6,z7,h,⟨⟨rfl,rfl,rfl,rfl,rfl,rfl,trivial⟩,(.o (.o .nil))⟩⟩
   ·exact Z08 _ rfl<|⟨i2,h,⟨⟨rfl,rfl,rfl,trivial⟩,(.o (.o .nil))⟩⟩
 ·rintro t m ⟨i1,h,hF⟩
  refine Zi hF ?_
  clear hF
  subst q1
  refine Z0<|bH h fun z8 e8 h=>bH h fun z9 e9 h=>bH h fun z10 e10 h=>bH h fun l1 g1 h=>Z1<|Z44 rfl rfl (by decide)<|j_i e8 rfl .t1 rfl<|Z7 rfl<|j_b e9 rfl<|j_b e10 rfl<|Z44 rfl rfl (by decide)<|Za (Z7a (q:=[u5' l1]) (congrArg (fun z=>([u5' z]:List Seg)) g1.symm) rfl rfl rfl rfl .t1<|Z2<|Z0<|Z0<|Z1<|Z7 rfl<|Z2<|jH h fun k3 q3 h=>Zo (G:=fun t m=>∃ (a1:LI),k3 a1=some r/\Fit [(1,pt' b1),(2,pt' b2)] (ck b2 202 [u5' (replicate 5 0)]::(ck b1 202 [u5' a1] :: [])) t m) ?_ ?_)
  ·refine Zb<|Zz (fun n2 t m=>∃ (i4:Int) (a2:LI),Z5y k3 n2 i4 a2=some r/\Fit [(1,pt' b1),(2,pt' b2),(31,.int .i64 (i4))] (ck b2 202 [u5' (replicate 5 0)]::(ck b1 202 [u5' a2] :: [])) t m) big ?_ ?_
   ·exact ⟨0,l1,h,⟨⟨rfl,rfl,rfl,trivial⟩,(.o (.o .nil))⟩⟩
   ·rintro n2 t m ⟨i4,a2,h,hF⟩
    refine Zi hF ?_
    clear hF
    rcases n2 with _ | n2
    · exact Z0s h
    have h:Zdb k3 (Z5y k3 n2) i4 a2=some r:=h
    unfold Zdb at h
    obtain ⟨k4,q4⟩ : ∃ k,k=Z5y k3 n2:=⟨_,rfl⟩
    try rw [<- q4] at h
    refine Z0<|Z1<|j_c rfl<|Z2<|Z0<|Z0k h rfl (fun h=>?_) (fun h=>?_)
    ·refine Zp<|Z0<|Zb<|Z0<|Z1<|Z7 rfl<|Z7 rfl<|Z2<|Z0<|bH h fun z11 e11 h=>cH h fun c2 h=>cH h fun c3 h=>bH h fun z12 e12 h=>bH h fun z13 e13 h=>bH h fun z14 e14 h=>bH h fun z15 e15 h=>cH h fun c4 h=>bH h fun l2 g2 h=>Zv<|k_m rfl<|k_b e11 rfl<|Z6v rfl rfl (Z0q c2)<|k_m rfl<|Z6v rfl rfl (Z0q c3)<|Z0v _ (iz e12 (Z32 (base:=0) rfl .t1 rfl (Z0g c2)))<|Z0v _ (iz e13 (Z32 (base:=0) rfl .t1 rfl (Z0g c3)))<|Z0x _ (iz e14 (Z61 rfl rfl (by decide)))<|k_b e15 rfl<|Z6v rfl rfl (Z0q c4)<|Z16 rfl (Z1z (q:=[u5' l2]) (base:=0) g2 rfl rfl rfl (Z0g c4) rfl .t1<|Z03<|cH h fun c5 h=>bH h fun z16 e16 h=>bH h fun z17 e17 h=>cH h fun c6 h=>bH h fun l3 g3 h=>Z1<|Z7 rfl<|Z44 rfl rfl (Z0q c5)<|Zq _ (iz e16 (Z32 (base:=0) rfl .t1 rfl (Z0g c5)))<|j_b e17 rfl<|Z44 rfl rfl (Z0q c6)<|Za (Z1z (q:=[u5' l3]) (base:=0) g3 rfl rfl rfl (Z0g c6) rfl .t1<|Z2<|bH h fun z18 e18 h=>Z1<|j_b e18 rfl<|Z7 rfl<|Z2 ?_))
     rw [q4] at h
     exact ⟨n2,Nat.lt_succ_self _,z18,l3,h,⟨⟨rfl,rfl,rfl,trivial⟩,(.o (.o .nil))⟩⟩
    ·exact Z08 _ rfl<|⟨a2,h,⟨⟨rfl,rfl,trivial⟩,(.o (.o .nil))⟩⟩
  ·rintro t m ⟨a1,h,hF⟩
   refine Zi hF ?_
   clear hF
   subst q3
   refine Z0<|bH h fun z19 e19 h=>bH h fun z20 e20 h=>bH h fun l4 g4 h=>Z1<|Z44 rfl rfl (by decide)<|j_i e19 rfl .t1 rfl<|j_b e20 rfl<|Z44 rfl rfl (by decide)<|Za (Z7a (q:=[u5' l4]) (congrArg (fun z=>([u5' z]:List Seg)) g4.symm) rfl rfl rfl rfl .t1<|Z2<|Z0<|Z1<|Z0z (p:=[u5' l4]) rfl .t1 rfl<|Za (Zm (q:=[u5' l4]) rfl rfl rfl rfl rfl .here<|Z2<|Zf ?_))
   cases h
   exact ⟨_,(.cons (.agg rfl .here rfl) .nil),rfl⟩
def Z2w (p0:LI) (o:Nat) (L:Nat) (p1:Int) (p2:Int):OL :=
 opt (Z5z p1 p2) fun y1 =>
 chk (decide (o+1<L)) <|
 bnd (p0.getD (o+1) 0) fun z1 =>
 chk (Zh9 z1 y1.2 0) <|
 bnd (Zcv z1 y1.2 0) fun z2 =>
 bnd (Zk4 z1 y1.2 0) fun z3 =>
 chk (decide (o+1<L)) <|
 bnd (Z2g p0 (o+1) z2) fun l1 =>
 chk (decide (o+0<L)) <|
 bnd (l1.getD (o+0) 0) fun z4 =>
 chk (Zh9 z4 y1.1 z3) <|
 bnd (Zcv z4 y1.1 z3) fun z5 =>
 bnd (Zk4 z4 y1.1 z3) fun z6 =>
 chk (decide (o+0<L)) <|
 bnd (Z2g l1 (o+0) z5) fun l2 =>
 some l2
theorem Z8v {W:World} {r:(LI)} {p0:LI} {o:Nat} {L:Nat} {p1:Int} {p2:Int} {b:Nat} {T:TypeId} (h:Z2w p0 o L p1 p2=some r) (h0:Sat W [b] (ck b T [.ints .u64 L (p0)] :: []) W) :
    Calls Tryz.prog 386 [.pointer (some ⟨b,o,none⟩),.int .u64 (p1),.int .u64 (p2)].toArray W (Z67 W [b] (fun v Ms=>v = .tuple #[]/\Ms = [.one (ck b T [.ints .u64 L (r)])])):=by
 unfold Z2w at h
 refine Zj mo Z0xt rfl h0 ?_
 refine Z0<|oH h fun y1 f1 h=>Z1<|Z7 rfl<|Z7 rfl<|Z2o rfl (Zc4 f1)<|Z7 rfl<|Zf1 rfl rfl<|Zf1 rfl rfl<|Z7 rfl<|Z7 rfl<|Z2<|Z0<|Z1<|Z7 rfl<|Z2<|Z0<|cH h fun c1 h=>bH h fun z1 e1 h=>cH h fun c2 h=>bH h fun z2 e2 h=>bH h fun z3 e3 h=>cH h fun c3 h=>bH h fun l1 g1 h=>Z1<|Z7 rfl<|Z7 rfl<|Zq _ (Z28 rfl)<|Z4c rfl<|Zq _ (Z090 (base:=0) (i:=o+1) e1 rfl .here rfl (by omega) c1)<|Z7 rfl<|Zq _ (Zih rfl Zk7 (xadd e2 e3 c2))<|Z7 rfl<|Zf1 rfl rfl<|Zf1 rfl rfl<|Zq _ (Z28 rfl)<|Z4c rfl<|Za (Z01s (base:=0) (i:=o+1) (q:=[.ints .u64 L l1]) g1 rfl rfl rfl (by omega) c3 (by simp [Zh6,Seg.width]) .here<|Z7 rfl<|Z2<|cH h fun c4 h=>bH h fun z4 e4 h=>cH h fun c5 h=>bH h fun z5 e5 h=>bH h fun z6 e6 h=>cH h fun c6 h=>bH h fun l2 g2 h=>Z1<|Z7 rfl<|Z7 rfl<|Zq _ (Z28 rfl)<|Z4c rfl<|Zq _ (Z090 (base:=0) (i:=o+0) e4 rfl .here rfl (by omega) c4)<|Z7 rfl<|Z7 rfl<|Zq _ (Zih rfl Zk7 (xadd e5 e6 c5))<|Z7 rfl<|Zf1 rfl rfl<|Zf1 rfl rfl<|Zq _ (Z28 rfl)<|Z4c rfl<|Za (Z01s (base:=0) (i:=o+0) (q:=[.ints .u64 L l2]) g2 rfl rfl rfl (by omega) c6 (by simp [Zh6,Seg.width]) .here<|Z2 ?_))
 cases h
 exact ⟨_,_,.nil,(.o .nil),⟨_,rfl,⟨rfl,rfl⟩⟩⟩
def Z7b (y1:(LI)) (i1:Int) (z1:Int) (k1:(LI)->OL) (k2:Int->(LI)->OL) (i2:Int) (a1:LI):OL :=
 br ((decide (i2<5))) (
 jn (fun (a2:LI)=>bnd (wrap .i64 (i2+1)) fun z2 =>
 k2 z2 a2) fun k3=>chk (inB i2 5) <|
 bnd (y1.getD (i2).toNat 0) fun z3 =>
 bnd (wrap .i64 (i1+i2)) fun z4 =>
 br ((decide (z4<5))) (
 bnd (wrap .i64 (i1+i2)) fun z5 =>
 chk (inB z5 5) <|
 opt (Z2w a1 (0+(z5).toNat*2) 10 z1 z3) fun y2 =>
 k3 y2
 ) (
 bnd (wrap .i64 (i1+i2)) fun z6 =>
 bnd (wrap .i64 (z6-5)) fun z7 =>
 chk (inB z7 5) <|
 bnd (wrap .u64 (19*z3)) fun z8 =>
 opt (Z2w a1 (0+(z7).toNat*2) 10 z1 z8) fun y3 =>
 k3 y3
 )
 ) (
 k1 a1
 )
def Z6a (y1:(LI)) (i1:Int) (z1:Int) (k1:(LI)->OL):Nat->Int->(LI)->OL
  | 0,_,_=>none
  | n+1,i2,a1=>Z7b y1 i1 z1 k1 (Z6a y1 i1 z1 k1 n) i2 a1
def Zb1 (y1:(LI)) (y2:(LI)) (k1:(LI)->OL) (k2:Int->(LI)->OL) (i1:Int) (a1:LI):OL :=
 br ((decide (i1<5))) (
 chk (inB i1 5) <|
 bnd (y1.getD (i1).toNat 0) fun z1 =>
 jn (fun (a2:LI)=>bnd (wrap .i64 (i1+1)) fun z2 =>
 k2 z2 a2) fun k3=>Z6a y2 i1 z1 k3 big 0 a1
 ) (
 k1 a1
 )
def Z3v (y1:(LI)) (y2:(LI)) (k1:(LI)->OL):Nat->Int->(LI)->OL
  | 0,_,_=>none
  | n+1,i1,a1=>Zb1 y1 y2 k1 (Z3v y1 y2 k1 n) i1 a1
def Z98 (a1:LI) (k1:Int->(LI)->OL) (k2:Int->Int->(LI)->OL) (i1:Int) (i2:Int) (a2:LI):OL :=
 br ((decide (i2<5))) (
 chk (inB i2 5) <|
 bnd (tk a1 ((i2).toNat*2) 2) fun l1 =>
 bnd (l1.getD 1 0) fun z1 =>
 chk (Zh9 z1 i1 0) <|
 bnd (Zcv z1 i1 0) fun z2 =>
 bnd (Zk4 z1 i1 0) fun z3 =>
 bnd (Z4 .and .u64 z2 2251799813685247) fun z4 =>
 chk (inB i2 5) <|
 bnd (Z2g a2 (i2).toNat z4) fun l2 =>
 bnd (l1.getD 0 0) fun z5 =>
 bnd (wrap .u64 (z5+z3)) fun z6 =>
 bnd (Zn .u64 z6 13) fun z7 =>
 bnd (Zx .u64 z2 51) fun z8 =>
 bnd (Z4 .or .u64 z7 z8) fun z9 =>
 bnd (wrap .i64 (i2+1)) fun z10 =>
 k2 z9 z10 l2
 ) (
 k1 i1 a2
 )
def Z4n (a1:LI) (k1:Int->(LI)->OL):Nat->Int->Int->(LI)->OL
  | 0,_,_,_=>none
  | n+1,i1,i2,a2=>Z98 a1 k1 (Z4n a1 k1 n) i1 i2 a2
def Z1x (p0:LI) (p1:LI):OL :=
 opt (Z5o p0) fun y1 =>
 opt (Z5o p1) fun y2 =>
 jn (fun (a1:LI)=>jn (fun (i1:Int) (a2:LI)=>opt (Z2w (replicate 2 0) 0 2 i1 19) fun y3 =>
 bnd (y3.getD 1 0) fun z1 =>
 bnd (a2.getD 0 0) fun z2 =>
 chk (Zh9 z1 z2 0) <|
 bnd (Zcv z1 z2 0) fun z3 =>
 bnd (Zk4 z1 z2 0) fun z4 =>
 bnd (Z4 .and .u64 z3 2251799813685247) fun z5 =>
 bnd (Z2g a2 0 z5) fun l1 =>
 bnd (l1.getD 1 0) fun z6 =>
 bnd (y3.getD 0 0) fun z7 =>
 bnd (wrap .u64 (z7+z4)) fun z8 =>
 bnd (Zn .u64 z8 13) fun z9 =>
 bnd (Zx .u64 z3 51) fun z10 =>
 bnd (Z4 .or .u64 z9 z10) fun z11 =>
 bnd (wrap .u64 (z6+z11)) fun z12 =>
 bnd (Z2g l1 1 z12) fun l2 =>
 opt (Z2r l2) fun y4 =>
 some y4) fun k1=>Z4n a1 k1 big 0 0 (replicate 5 0)) fun k2=>Z3v y1 y2 k2 big 0 (replicate 10 0)
theorem Z1l {W:World} {r:(LI)} {p0:LI} {p1:LI} (h:Z1x p0 p1=some r)  :
    Calls Tryz.prog 250 [agg [u5' p0],agg [u5' p1]].toArray W (Z1w W (agg [u5' r])):=by
 unfold Z1x at h
 refine Z9 mo Z0v4 rfl ?_
 refine Z0<|Z1<|Za (Z02 (s:=[u5' p0]) rfl fun b1 u1=>Za (Z02 (s:=[u5' p1]) rfl fun b2 u2=>Za (Zu fun b3 u3=>Z2<|Z0<|oH h fun y1 f1 h=>oH h fun y2 f2 h=>Zv<|Z1q (p:=[u5' p0]) rfl .t2 rfl<|Z4o rfl (Z57 f1)<|Z1q (p:=[u5' p1]) rfl .t1 rfl<|Z4o rfl (Z57 f2)<|Z16 rfl (Zm (q:=[u5' y1]) rfl rfl rfl rfl rfl .t2<|Z0pc rfl (Zm (q:=[u5' y2]) rfl rfl rfl rfl rfl .t1<|Z03<|Z0<|Z1<|Za (Zu fun b4 u4=>Z2<|Z0<|Z0<|Z1<|Z0z (p:=[u5' y1]) rfl .t3 rfl<|Z7 rfl<|Z2<|jH h fun k1 q1 h=>Zo (G:=fun t m=>∃ (a1:LI),k1 a1=some r/\Fit [(4,pt' b3),(5,pt' b4)] (ck b4 444 [uA' a1]::(ck b3 202 [u5' (replicate 5 0)]::(ck b2 202 [u5' y2]::(ck b1 202 [u5' y1] :: [])))) t m) ?_ ?_))))))
 ·refine Zb<|Zz (fun n1 t m=>∃ (i1:Int) (a2:LI),Z3v y1 y2 k1 n1 i1 a2=some r/\Fit [(3,pt' b2),(4,pt' b3),(5,pt' b4),(23,agg [u5' y1]),(24,.int .i64 (i1))] (ck b4 444 [uA' a2]::(ck b3 202 [u5' (replicate 5 0)]::(ck b2 202 [u5' y2]::(ck b1 202 [u5' y1] :: [])))) t m) big ?_ ?_
  ·exact ⟨0,(replicate 10 0),h,⟨⟨rfl,rfl,rfl,rfl,rfl,trivial⟩,(.o (.o (.o (.o .nil))))⟩⟩
  ·rintro n1 t m ⟨i1,a2,h,hF⟩
   refine Zi hF ?_
   clear hF
   rcases n1 with _ | n1
   · exact Z0s h
   have h:Zb1 y1 y2 k1 (Z3v y1 y2 k1 n1) i1 a2=some r:=h
   unfold Zb1 at h
   obtain ⟨k2,q2⟩ : ∃ k,k=Z3v y1 y2 k1 n1:=⟨_,rfl⟩
   try rw [<- q2] at h
   refine Z0<|Z1<|j_c rfl<|Z2<|Z0<|Z0k h rfl (fun h=>?_) (fun h=>?_)
   ·refine Zp<|Z0<|Zb<|Z0<|cH h fun c1 h=>bH h fun z1 e1 h=>Z1<|Z7 rfl<|Zq _ (iz e1 (Zn6 (len:=5) rfl rfl (Z0q c1)))<|Z7 rfl<|Z7 rfl<|Z2<|Z0<|Z1<|Z0z (p:=[u5' y2]) rfl .t2 rfl<|Z7 rfl<|Z2<|jH h fun k3 q3 h=>Zo (G:=fun t m=>∃ (a3:LI),k3 a3=some r/\Fit [(3,pt' b2),(4,pt' b3),(5,pt' b4),(23,agg [u5' y1]),(24,.int .i64 (i1))] (ck b4 444 [uA' a3]::(ck b3 202 [u5' (replicate 5 0)]::(ck b2 202 [u5' y2]::(ck b1 202 [u5' y1] :: [])))) t m) ?_ ?_
    ·refine Zb<|Zz (fun n2 t m=>∃ (i2:Int) (a4:LI),Z6a y2 i1 z1 k3 n2 i2 a4=some r/\Fit [(3,pt' b2),(4,pt' b3),(5,pt' b4),(6,.int .i64 (i1)),(7,.int .u64 (z1)),(23,agg [u5' y1]),(24,.int .i64 (i1)),(28,agg [u5' y2]),(29,.int .i64 (i2))] (ck b4 444 [uA' a4]::(ck b3 202 [u5' (replicate 5 0)]::(ck b2 202 [u5' y2]::(ck b1 202 [u5' y1] :: [])))) t m) big ?_ ?_
     ·exact ⟨0,a2,h,⟨⟨rfl,rfl,rfl,rfl,rfl,rfl,rfl,rfl,rfl,trivial⟩,(.o (.o (.o (.o .nil))))⟩⟩
     ·rintro n2 t m ⟨i2,a4,h,hF⟩
      refine Zi hF ?_
      clear hF
      rcases n2 with _ | n2
      · exact Z0s h
      have h:Z7b y2 i1 z1 k3 (Z6a y2 i1 z1 k3 n2) i2 a4=some r:=h
      unfold Z7b at h
      obtain ⟨k4,q4⟩ : ∃ k,k=Z6a y2 i1 z1 k3 n2:=⟨_,rfl⟩
      try rw [<- q4] at h
      refine Z0<|Z1<|j_c rfl<|Z2<|Z0<|Z0k h rfl (fun h=>?_) (fun h=>?_)
      ·refine Zp<|Z0<|jH h fun k5 q5 h=>Zo (G:=fun t m=>∃ (a5:LI),k5 a5=some r/\Fit [(3,pt' b2),(4,pt' b3),(5,pt' b4),(6,.int .i64 (i1)),(7,.int .u64 (z1)),(23,agg [u5' y1]),(24,.int .i64 (i1)),(28,agg [u5' y2]),(29,.int .i64 (i2))] (ck b4 444 [uA' a5]::(ck b3 202 [u5' (replicate 5 0)]::(ck b2 202 [u5' y2]::(ck b1 202 [u5' y1] :: [])))) t m) ?_ ?_
       ·refine Zb<|Z0<|cH h fun c2 h=>bH h fun z2 e2 h=>Z1<|Z7 rfl<|Zq _ (iz e2 (Zn6 (len:=5) rfl rfl (Z0q c2)))<|Z7 rfl<|Z7 rfl<|Z2<|Z0<|bH h fun z3 e3 h=>Z1<|Z7 rfl<|Z7 rfl<|j_b e3 rfl<|j_c rfl<|Z2<|Z0k h rfl (fun h=>?_) (fun h=>?_)
        ·refine bH h fun z4 e4 h=>cH h fun c3 h=>oH h fun y3 f3 h=>Z1<|Z7 rfl<|Z7 rfl<|j_b e4 rfl<|Z44 rfl rfl (Z0q c3)<|Z7 rfl<|Z7 rfl<|Za (Z0j (mS:=[_]) rfl (Z4j.perm .here) (fun w hw=>Z8v  f3 (Zey hw (mS:=[_]) (Z4j.perm .here)) ) fun v1649 o1 R1=>?_)
         obtain ⟨rfl,rfl⟩:=R1
         exact Z2<|⟨y3,h,⟨⟨rfl,rfl,rfl,rfl,rfl,rfl,rfl,rfl,rfl,trivial⟩,(.o (.o (.o (.o .nil))))⟩⟩
        ·refine bH h fun z5 e5 h=>bH h fun z6 e6 h=>cH h fun c4 h=>bH h fun z7 e7 h=>oH h fun y4 f4 h=>Z1<|Z7 rfl<|Z7 rfl<|j_b e5 rfl<|j_b e6 rfl<|Z44 rfl rfl (Z0q c4)<|Z7 rfl<|Z7 rfl<|j_b e7 rfl<|Za (Z0j (mS:=[_]) rfl (Z4j.perm .here) (fun w hw=>Z8v  f4 (Zey hw (mS:=[_]) (Z4j.perm .here)) ) fun v1657 o2 R2=>?_)
         obtain ⟨rfl,rfl⟩:=R2
         exact Z2<|⟨y4,h,⟨⟨rfl,rfl,rfl,rfl,rfl,rfl,rfl,rfl,rfl,trivial⟩,(.o (.o (.o (.o .nil))))⟩⟩
       ·rintro t m ⟨a5,h,hF⟩
        refine Zi hF ?_
        clear hF
        subst q5
        refine bH h fun z8 e8 h=>Z1<|j_b e8 rfl<|Z7 rfl<|Z2 ?_
        rw [q4] at h
        exact ⟨n2,Nat.lt_succ_self _,z8,a5,h,⟨⟨rfl,rfl,rfl,rfl,rfl,rfl,rfl,rfl,rfl,trivial⟩,(.o (.o (.o (.o .nil))))⟩⟩
      ·exact Z08 _ rfl<|⟨a4,h,⟨⟨rfl,rfl,rfl,rfl,rfl,trivial⟩,(.o (.o (.o (.o .nil))))⟩⟩
    ·rintro t m ⟨a3,h,hF⟩
     refine Zi hF ?_
     clear hF
     subst q3
     refine bH h fun z9 e9 h=>Z1<|j_b e9 rfl<|Z7 rfl<|Z2 ?_
     rw [q2] at h
     exact ⟨n1,Nat.lt_succ_self _,z9,a3,h,⟨⟨rfl,rfl,rfl,rfl,rfl,trivial⟩,(.o (.o (.o (.o .nil))))⟩⟩
   ·exact Z08 _ rfl<|⟨a2,h,⟨⟨rfl,rfl,trivial⟩,(.o (.o (.o (.o .nil))))⟩⟩
 ·rintro t m ⟨a1,h,hF⟩
  refine Zi hF ?_
  clear hF
  subst q1
  refine Z0<|Z1<|Za (Zu fun b5 u5=>Z2<|Z0<|Z1<|Z7 rfl<|Z2<|Z0<|Z0<|Z1<|Z0z (p:=[uA' a1]) rfl .t1 rfl<|Z7 rfl<|Z2<|jH h fun k6 q6 h=>Zo (G:=fun t m=>∃ (i3:Int) (a6:LI),k6 i3 a6=some r/\Fit [(4,pt' b3),(10,pt' b5),(11,.int .u64 (i3))] (ck b5 202 [u5' a6]::(ck b4 444 [uA' a1]::(ck b3 202 [u5' (replicate 5 0)]::(ck b2 202 [u5' y2]::(ck b1 202 [u5' y1] :: []))))) t m) ?_ ?_)
  ·refine Zb<|Zz (fun n3 t m=>∃ (i4:Int) (i5:Int) (a7:LI),Z4n a1 k6 n3 i4 i5 a7=some r/\Fit [(4,pt' b3),(10,pt' b5),(11,.int .u64 (i4)),(55,agg [uA' a1]),(56,.int .i64 (i5))] (ck b5 202 [u5' a7]::(ck b4 444 [uA' a1]::(ck b3 202 [u5' (replicate 5 0)]::(ck b2 202 [u5' y2]::(ck b1 202 [u5' y1] :: []))))) t m) big ?_ ?_
   ·exact ⟨0,0,(replicate 5 0),h,⟨⟨rfl,rfl,rfl,rfl,rfl,trivial⟩,(.o (.o (.o (.o (.o .nil)))))⟩⟩
   ·rintro n3 t m ⟨i4,i5,a7,h,hF⟩
    refine Zi hF ?_
    clear hF
    rcases n3 with _ | n3
    · exact Z0s h
    have h:Z98 a1 k6 (Z4n a1 k6 n3) i4 i5 a7=some r:=h
    unfold Z98 at h
    obtain ⟨k7,q7⟩ : ∃ k,k=Z4n a1 k6 n3:=⟨_,rfl⟩
    try rw [<- q7] at h
    refine Z0<|Z1<|j_c rfl<|Z2<|Z0<|Z0k h rfl (fun h=>?_) (fun h=>?_)
    ·refine Zp<|Z0<|Zb<|Z0<|cH h fun c5 h=>bH h fun l1 g1 h=>Z1<|Z7 rfl<|Zq _ (az (fun z=>agg [.ints .u64 2 z]) g1 (Z0ly (len:=5) (w:=2) rfl rfl (Z0q c5)))<|Za (Zu fun b6 u6=>Z7 rfl<|Za (Zm (q:=[.ints .u64 2 (l1)]) rfl rfl rfl rfl rfl .here<|Z2<|Z0<|bH h fun z10 e10 h=>cH h fun c6 h=>bH h fun z11 e11 h=>bH h fun z12 e12 h=>Z1<|Z4c rfl<|j_i e10 rfl .here rfl<|Z7 rfl<|Zq _ (Zih rfl Zk7 (xadd e11 e12 c6))<|Z7 rfl<|Zf1 rfl rfl<|Zf1 rfl rfl<|Z7 rfl<|Z7 rfl<|Z2<|Z0<|bH h fun z13 e13 h=>cH h fun c7 h=>bH h fun l2 g2 h=>Z1<|Z7 rfl<|Z7 rfl<|j_b e13 rfl<|Z44 rfl rfl (Z0q c7)<|Za (Z1z (q:=[u5' l2]) (base:=0) g2 rfl rfl rfl (Z0g c7) rfl .t1<|Z2<|bH h fun z14 e14 h=>bH h fun z15 e15 h=>bH h fun z16 e16 h=>bH h fun z17 e17 h=>bH h fun z18 e18 h=>Z1<|Z4c rfl<|j_i e14 rfl .here rfl<|Z7 rfl<|j_b e15 rfl<|Zq _ (iz e16 (Zno rfl rfl (by decide)))<|Z7 rfl<|Zq _ (iz e17 (Z61 rfl rfl (by decide)))<|j_b e18 rfl<|Z7 rfl<|Z2<|bH h fun z19 e19 h=>Z1<|j_b e19 rfl<|Z7 rfl<|Z2 ?_)))
     rw [q7] at h
     exact ⟨n3,Nat.lt_succ_self _,z18,z19,l2,h,⟨⟨rfl,rfl,rfl,rfl,rfl,trivial⟩,(.one .t1 (.one .t1 (.one .t1 (.one .t1 (.one .t1 .nil)))))⟩⟩
    ·exact Z08 _ rfl<|⟨i4,a7,h,⟨⟨rfl,rfl,rfl,trivial⟩,(.o (.o (.o (.o (.o .nil)))))⟩⟩
  ·rintro t m ⟨i3,a6,h,hF⟩
   refine Zi hF ?_
   clear hF
   subst q6
   refine Z0<|Z1<|Za (Zu fun b7 u7=>Z2<|Z0<|oH h fun y5 f5 h=>Z1<|Z7 rfl<|Za (Z0j (mS:=[_]) rfl (Z4j.perm .here) (fun w hw=>Z8v  f5 (Zey hw (mS:=[_]) (Z4j.perm .here)) ) fun v1820 o3 R3=>?_))
   obtain ⟨rfl,rfl⟩:=R3
   refine Z2<|Z0<|bH h fun z20 e20 h=>bH h fun z21 e21 h=>cH h fun c8 h=>bH h fun z22 e22 h=>bH h fun z23 e23 h=>Z1<|Z4c rfl<|j_i e20 rfl .here rfl<|Z44 rfl rfl (by decide)<|j_i e21 rfl .t1 rfl<|Zq _ (Zih rfl Zk7 (xadd e22 e23 c8))<|Z7 rfl<|Zf1 rfl rfl<|Zf1 rfl rfl<|Z7 rfl<|Z7 rfl<|Z2<|Z0<|bH h fun z24 e24 h=>bH h fun l3 g3 h=>Z1<|Z7 rfl<|j_b e24 rfl<|Z44 rfl rfl (by decide)<|Za (Z7a (q:=[u5' l3]) (congrArg (fun z=>([u5' z]:List Seg)) g3.symm) rfl rfl rfl rfl .t1<|Z2<|Z0<|bH h fun z25 e25 h=>bH h fun z26 e26 h=>bH h fun z27 e27 h=>bH h fun z28 e28 h=>bH h fun z29 e29 h=>bH h fun z30 e30 h=>bH h fun z31 e31 h=>bH h fun l4 g4 h=>Z1<|Z44 rfl rfl (by decide)<|j_i e25 rfl .t1 rfl<|Z4c rfl<|j_i e26 rfl .here rfl<|Z7 rfl<|j_b e27 rfl<|Zq _ (iz e28 (Zno rfl rfl (by decide)))<|Z7 rfl<|Zq _ (iz e29 (Z61 rfl rfl (by decide)))<|j_b e30 rfl<|j_b e31 rfl<|Z44 rfl rfl (by decide)<|Za (Z7a (q:=[u5' l4]) (congrArg (fun z=>([u5' z]:List Seg)) g4.symm) rfl rfl rfl rfl .t1<|Z2<|Z0<|oH h fun y6 f6 h=>Z1<|Z0z (p:=[u5' l4]) rfl .t1 rfl<|Z2o rfl (Z2s f6)<|Za (Zm (q:=[u5' y6]) rfl rfl rfl rfl rfl .t3<|Z2<|Zf ?_)))
   cases h
   exact ⟨_,(.cons (.agg rfl .t3 rfl) .nil),rfl⟩
def Z2c (p0:LI):OL :=
 opt (Z1x p0 p0) fun y1 =>
 some y1
theorem Z5v {W:World} {r:(LI)} {p0:LI} (h:Z2c p0=some r)  :
    Calls Tryz.prog 245 [agg [u5' p0]].toArray W (Z1w W (agg [u5' r])):=by
 unfold Z2c at h
 refine Z9 mo Z0v0 rfl ?_
 refine Z0<|Z1<|Za (Z02 (s:=[u5' p0]) rfl fun b1 u1=>Za (Zu fun b2 u2=>Z2<|Z0<|oH h fun y1 f1 h=>Z1<|Z0z (p:=[u5' p0]) rfl .t1 rfl<|Z0z (p:=[u5' p0]) rfl .t1 rfl<|Z2o rfl (Z1l f1)<|Za (Zm (q:=[u5' y1]) rfl rfl rfl rfl rfl .here<|Z2<|Zf ?_)))
 cases h
 exact ⟨_,(.cons (.agg rfl .here rfl) .nil),rfl⟩
def Zd9 (p0:Int):OL :=
 bnd (([p0,0,0,0,0]:LI)) fun z1 =>
 opt (Z2r z1) fun y1 =>
 some y1
theorem Znk {W:World} {r:(LI)} {p0:Int} (h:Zd9 p0=some r)  :
    Calls Tryz.prog 383 [.int .u64 (p0)].toArray W (Z1w W (agg [u5' r])):=by
 unfold Zd9 at h
 refine Z9 mo Z0xr rfl ?_
 refine Z0<|Z1<|Za (Zu fun b1 u1=>Z2<|Z0<|bH h fun z1 e1 h=>oH h fun y1 f1 h=>Z1<|Z7 rfl<|Zq _ (az (fun z=>agg [.ints .u64 5 z]) e1 (Zex (.one rfl rfl rfl BdR.nil)))<|Z2o rfl (Z2s f1)<|Za (Zm (q:=[u5' y1]) rfl rfl rfl rfl rfl .here<|Z2<|Zf ?_))
 cases h
 exact ⟨_,(.cons (.agg rfl .here rfl) .nil),rfl⟩
def Z9a (p0:LI) (p1:LI) (k1:(LI)->OL) (k2:Int->(LI)->OL) (i1:Int) (a1:LI):OL :=
 br ((decide (i1≥0))) (
 jn (fun (a2:LI)=>bnd (wrap .i64 (i1-1)) fun z1 =>
 k2 z1 a2) fun k3=>opt (Z2c a1) fun y1 =>
 bnd (wrap .i64 (Int.tdiv i1 8)) fun z2 =>
 chk (inB z2 32) <|
 bnd (p1.getD (z2).toNat 0) fun z3 =>
 bnd (Int.tmod i1 8) fun z4 =>
 chk (decide (0<=z4)) <|
 bnd (Zx .u8 z3 z4) fun z5 =>
 bnd (Z4 .and .u8 z5 1) fun z6 =>
 br ((z6==1)) (
 opt (Z1x y1 p0) fun y2 =>
 k3 y2
 ) (
 k3 y1
 )
 ) (
 k1 a1
 )
def Z5d (p0:LI) (p1:LI) (k1:(LI)->OL):Nat->Int->(LI)->OL
  | 0,_,_=>none
  | n+1,i1,a1=>Z9a p0 p1 k1 (Z5d p0 p1 k1 n) i1 a1
def Zhp (p0:LI) (p1:LI):OL :=
 opt (Zd9 1) fun y1 =>
 jn (fun (a1:LI)=>some a1) fun k1=>Z5d p0 p1 k1 big 255 y1
theorem Zqk {W:World} {r:(LI)} {p0:LI} {p1:LI} (h:Zhp p0 p1=some r)  :
    Calls Tryz.prog 380 [agg [u5' p0],agg [b3' p1]].toArray W (Z1w W (agg [u5' r])):=by
 unfold Zhp at h
 refine Z9 mo Z0xp rfl ?_
 refine Z0<|Z1<|Za (Z02 (s:=[u5' p0]) rfl fun b1 u1=>Za (Z02 (s:=[b3' p1]) rfl fun b2 u2=>Za (Zu fun b3 u3=>Z2<|Z0<|oH h fun y1 f1 h=>Z1<|Z2o rfl (Znk f1)<|Za (Zu fun b4 u4=>Za (Zm (q:=[u5' y1]) rfl rfl rfl rfl rfl .here<|Z2<|Z0<|Z0<|Z1<|Z7 rfl<|Z2<|jH h fun k1 q1 h=>Zo (G:=fun t m=>∃ (a1:LI),k1 a1=some r/\Fit [(4,pt' b3),(5,pt' b4)] (ck b4 202 [u5' a1]::(ck b3 202 [u5' (replicate 5 0)]::(ck b2 22 [b3' p1]::(ck b1 202 [u5' p0] :: [])))) t m) ?_ ?_)))))
 ·refine Zb<|Zz (fun n1 t m=>∃ (i1:Int) (a2:LI),Z5d p0 p1 k1 n1 i1 a2=some r/\Fit [(2,pt' b1),(3,pt' b2),(4,pt' b3),(5,pt' b4),(6,.int .i64 (i1))] (ck b4 202 [u5' a2]::(ck b3 202 [u5' (replicate 5 0)]::(ck b2 22 [b3' p1]::(ck b1 202 [u5' p0] :: [])))) t m) big ?_ ?_
  ·exact ⟨255,y1,h,⟨⟨rfl,rfl,rfl,rfl,rfl,trivial⟩,(.o (.o (.o (.o .nil))))⟩⟩
  ·rintro n1 t m ⟨i1,a2,h,hF⟩
   refine Zi hF ?_
   clear hF
   rcases n1 with _ | n1
   · exact Z0s h
   have h:Z9a p0 p1 k1 (Z5d p0 p1 k1 n1) i1 a2=some r:=h
   unfold Z9a at h
   obtain ⟨k2,q2⟩ : ∃ k,k=Z5d p0 p1 k1 n1:=⟨_,rfl⟩
   try rw [<- q2] at h
   refine Z0<|Z0<|Z1<|Z7 rfl<|j_c rfl<|Z2<|Z0k h rfl (fun h=>?_) (fun h=>?_)
   ·refine Zp<|Z0<|jH h fun k3 q3 h=>Zo (G:=fun t m=>∃ (a3:LI),k3 a3=some r/\Fit [(2,pt' b1),(3,pt' b2),(4,pt' b3),(5,pt' b4),(6,.int .i64 (i1))] (ck b4 202 [u5' a3]::(ck b3 202 [u5' (replicate 5 0)]::(ck b2 22 [b3' p1]::(ck b1 202 [u5' p0] :: [])))) t m) ?_ ?_
    ·refine Zb<|Z0<|oH h fun y2 f2 h=>Z1<|Z0z (p:=[u5' a2]) rfl .here rfl<|Z2o rfl (Z5v f2)<|Za (Zm (q:=[u5' y2]) rfl rfl rfl rfl rfl .here<|Z2<|Z0<|bH h fun z1 e1 h=>cH h fun c1 h=>bH h fun z2 e2 h=>bH h fun z3 e3 h=>cH h fun c2 h=>bH h fun z4 e4 h=>bH h fun z5 e5 h=>Z1<|Z7 rfl<|Zq _ (iz e1 (Zbl rfl rfl (by decide)))<|Z44 rfl rfl (Z0q c1)<|Zq _ (iz e2 (Z32 (base:=0) rfl .t2 rfl (Z0g c1)))<|Z7 rfl<|Zq _ (iz e3 (Zdp rfl rfl (by decide)))<|Zq _ (iz e4 (Z61 rfl rfl (of_decide_eq_true c2)))<|j_b e5 rfl<|j_c rfl<|Z2<|Z0k h rfl (fun h=>?_) (fun h=>?_))
     ·exact oH h fun y3 f3 h=>Z1<|Z0z (p:=[u5' y2]) rfl .here rfl<|Z0z (p:=[u5' p0]) rfl .t3 rfl<|Z2o rfl (Z1l f3)<|Za (Zm (q:=[u5' y3]) rfl rfl rfl rfl rfl .here<|Z2<|⟨y3,h,⟨⟨rfl,rfl,rfl,rfl,rfl,trivial⟩,(.o (.o (.o (.o .nil))))⟩⟩)
     ·exact Zp<|⟨y2,h,⟨⟨rfl,rfl,rfl,rfl,rfl,trivial⟩,(.o (.o (.o (.o .nil))))⟩⟩
    ·rintro t m ⟨a3,h,hF⟩
     refine Zi hF ?_
     clear hF
     subst q3
     refine bH h fun z6 e6 h=>Z1<|Z7 rfl<|j_b e6 rfl<|Z7 rfl<|Z2 ?_
     rw [q2] at h
     exact ⟨n1,Nat.lt_succ_self _,z6,a3,h,⟨⟨rfl,rfl,rfl,rfl,rfl,trivial⟩,(.o (.o (.o (.o .nil))))⟩⟩
   ·exact Z08 _ rfl<|⟨a2,h,⟨⟨rfl,rfl,trivial⟩,(.o (.o (.o (.o .nil))))⟩⟩
 ·rintro t m ⟨a1,h,hF⟩
  refine Zi hF ?_
  clear hF
  subst q1
  refine Z0<|Z1<|Z0z (p:=[u5' a1]) rfl .here rfl<|Za (Zm (q:=[u5' a1]) rfl rfl rfl rfl rfl .t1<|Z2<|Zf ?_)
  cases h
  exact ⟨_,(.cons (.agg rfl .t1 rfl) .nil),rfl⟩
def Zes (k1:(LI)->OL) (k2:Int->(LI)->OL) (i1:Int) (a1:LI):OL :=
 br ((decide (i1<32))) (
 chk (inB i1 32) <|
 bnd (Z2g a1 (i1).toNat 255) fun l1 =>
 bnd (wrap .i64 (i1+1)) fun z1 =>
 k2 z1 l1
 ) (
 k1 a1
 )
def Z8g (k1:(LI)->OL):Nat->Int->(LI)->OL
  | 0,_,_=>none
  | n+1,i1,a1=>Zes k1 (Z8g k1 n) i1 a1
def Zge (p0:Int) (p1:Int):OL :=
 jn (fun (a1:LI)=>bnd (Z2g a1 0 p0) fun l1 =>
 bnd (Z2g l1 31 p1) fun l2 =>
 some l2) fun k1=>Z8g k1 big 0 (replicate 32 0)
theorem Znl {W:World} {r:(LI)} {p0:Int} {p1:Int} (h:Zge p0 p1=some r)  :
    Calls Tryz.prog 381 [.int .u8 (p0),.int .u8 (p1)].toArray W (Z1w W (agg [b3' r])):=by
 unfold Zge at h
 refine Z9 mo Z0xq rfl ?_
 refine Z0<|Z1<|Za (Zu fun b1 u1=>Z2<|Z0<|Z1<|Za (Zu fun b2 u2=>Z2<|Z0<|Z0<|Z1<|Z7 rfl<|Z2<|jH h fun k1 q1 h=>Zo (G:=fun t m=>∃ (a1:LI),k1 a1=some r/\Fit [(0,.int .u8 (p0)),(1,.int .u8 (p1)),(4,pt' b1),(5,pt' b2)] (ck b2 22 [b3' a1]::(ck b1 22 [b3' (replicate 32 0)] :: [])) t m) ?_ ?_))
 ·refine Zb<|Zz (fun n1 t m=>∃ (i1:Int) (a2:LI),Z8g k1 n1 i1 a2=some r/\Fit [(0,.int .u8 (p0)),(1,.int .u8 (p1)),(4,pt' b1),(5,pt' b2),(7,.int .i64 (i1))] (ck b2 22 [b3' a2]::(ck b1 22 [b3' (replicate 32 0)] :: [])) t m) big ?_ ?_
  ·exact ⟨0,(replicate 32 0),h,⟨⟨rfl,rfl,rfl,rfl,rfl,trivial⟩,(.o (.o .nil))⟩⟩
  ·rintro n1 t m ⟨i1,a2,h,hF⟩
   refine Zi hF ?_
   clear hF
   rcases n1 with _ | n1
   · exact Z0s h
   have h:Zes k1 (Z8g k1 n1) i1 a2=some r:=h
   unfold Zes at h
   obtain ⟨k2,q2⟩ : ∃ k,k=Z8g k1 n1:=⟨_,rfl⟩
   try rw [<- q2] at h
   refine Z0<|Z1<|j_c rfl<|Z2<|Z0<|Z0k h rfl (fun h=>?_) (fun h=>?_)
   ·refine Zp<|Z0<|Zb<|Z0<|Z1<|Z7 rfl<|Z7 rfl<|Z2<|cH h fun c1 h=>bH h fun l1 g1 h=>Z1<|Z7 rfl<|Z44 rfl rfl (Z0q c1)<|Za (Z1z (q:=[b3' l1]) (base:=0) g1 rfl rfl rfl (Z0g c1) rfl .here<|Z2<|bH h fun z1 e1 h=>Z1<|j_b e1 rfl<|Z7 rfl<|Z2 ?_)
    rw [q2] at h
    exact ⟨n1,Nat.lt_succ_self _,z1,l1,h,⟨⟨rfl,rfl,rfl,rfl,rfl,trivial⟩,(.o (.o .nil))⟩⟩
   ·exact Z08 _ rfl<|⟨a2,h,⟨⟨rfl,rfl,rfl,rfl,trivial⟩,(.o (.o .nil))⟩⟩
 ·rintro t m ⟨a1,h,hF⟩
  refine Zi hF ?_
  clear hF
  subst q1
  refine Z0<|bH h fun l2 g2 h=>bH h fun l3 g3 h=>Z1<|Z7 rfl<|Z7 rfl<|Z44 rfl rfl (by decide)<|Za (Z7a (q:=[b3' l2]) (congrArg (fun z=>([b3' z]:List Seg)) g2.symm) rfl rfl rfl rfl .here<|Z44 rfl rfl (by decide)<|Za (Z7a (q:=[b3' l3]) (congrArg (fun z=>([b3' z]:List Seg)) g3.symm) rfl rfl rfl rfl .here<|Z2<|Z0<|Z1<|Z0z (p:=[b3' l3]) rfl .here rfl<|Za (Zm (q:=[b3' l3]) rfl rfl rfl rfl rfl .t1<|Z2<|Zf ?_)))
  cases h
  exact ⟨_,(.cons (.agg rfl .t1 rfl) .nil),rfl⟩
end Go.Proofs.YtkjfpenagcdmcaaGreatDoor
