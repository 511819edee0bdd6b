/- Texts of a proof, one behind the other: S1 SB L1 L2 L3. -/
import Derived.Test.YtiflckckekjbnaaGreatDoorYMZ2
import Derived.Test.YtiflckckekjbnaaGreatDoorProg
namespace Go.Proofs.YtiflckckekjbnaaGreatDoor
open Go Go.Sx Go.RowKit
open List (replicate)
set_option linter.all false
set_option maxHeartbeats 400000
set_option maxRecDepth 100000
def Z0e1:LJ:=[jl 1 8 true (.global 5),jd 2 [.ints .u32 8 (replicate 8 0),.ints .u8 64 (replicate 64 0),.one (.int .u64 0)] [(0,8,1)],jx 3 247 2,jm 0 3]
def d223:FnD:=⟨4,[.tmp 0],(.sq [jm 0 (.const (.pointer none))] (.sq Z0e1 .ret))⟩
theorem Z0l6:okF Tryz.prog 223 d223=true:=by kernel_rfl
def Z07b:IC:=(.ops [jm 9 1,jb 10 .add 9 (ci 1),jm 1 10])
def Z09t:IC:=(.seq (.sq [jm 5 2,jb 6 .neq 5 (.const (.int .u32 0))] (.cond 6 .skip (.exit 0))) (.seq (.block 1 Z07b) (.ops [jm 7 2,jb 8 .shr 7 (cu 1),jm 2 8])))
def Z07a:IC:=(.loop Z09t)
def d199:FnD:=⟨12,[.tmp 0],(.sq [jm 0 (ci 0)] (.sq [jm 1 (ci 0)] (.seq (.sq [jv 3 .u32 (ci 0),oj 4 (.un .xor 3),jm 2 4] (.block 0 Z07a)) (.sq [jm 11 1,jm 0 11] .ret))))⟩
theorem Z0kl:okF Tryz.prog 199 d199=true:=by kernel_rfl
def Z0ex:LJ:=[jm 8 1,jb 9 .lss 8 (ci 0),jm 10 9,.lg true 10 17 none [.op ⟨some 11,(some (10,false)),.mv 1⟩,.op ⟨some 12,(some (10,false)),.mv 0⟩,.op ⟨some 13,(some (10,false)),.len 12⟩,.op ⟨some 14,(some (10,false)),.mv 5⟩,.op ⟨some 15,(some (10,false)),.bin .sub 13 14⟩,.op ⟨some 16,(some (10,false)),.bin .gtr 11 15⟩] 16]
def d243:FnD:=⟨24,[.tmp 4],(.sq [jm 4 (.const (.slice none 0 0))] (.sq [jc 6 199 [],jb 7 .quo 6 (ci 8),jm 5 7] (.seq (.sq Z0ex (.cond 17 (.sq [jm 4 (.const (.slice none 0 0))] .ret) .skip)) (.sq [jm 18 0,jm 19 1,jm 20 1,jm 21 5,jb 22 .add 20 21,oj 23 (.sls 1 18 (some 19) (some 22) none),jm 4 23] .ret))))⟩
theorem Z0lq:okF Tryz.prog 243 d243=true:=by kernel_rfl
def Z08h:IC:=(.sq [ji' 17 1 13 15,jl 18 1 false 17,jm 9 18] (.ops [jm 19 6,jb 20 .shl 19 (cu 8),jm 21 9,jv 22 .u32 21,jb 23 .or 20 22,jm 6 23]))
def Z0ae:IC:=(.sq [jb 16 .lss 15 14] (.seq (.cond 16 .skip (.exit 0)) (.seq (.block 1 Z08h) (.ops [jb 24 .add 15 (ci 1),jm 15 24]))))
def Z08g:IC:=(.loop Z0ae)
def d237:FnD:=⟨28,[.tmp 4,.tmp 5],(.sq [jm 4 (.const (.int .u32 0)),jm 5 (.const (.bool false))] (.sq [jm 6 (.const (.int .u32 0))] (.sq [jm 10 0,jm 11 1,jc 12 243 [10,11],jm 7 12] (.seq (.sq [jm 13 7,jn' 14 13,jm 15 (ci 0)] (.block 0 Z08g)) (.sq [jm 25 6,jm 26 7,oj 27 (.isn true 26),jm 4 25,jm 5 27] .ret)))))⟩
theorem Z0lk:okF Tryz.prog 237 d237=true:=by kernel_rfl
def Z0eq:LJ:=[jm 14 0,jm 15 6,jb 16 .shr 14 15,jm 17 0,jm 18 5,jv 19 .u64 18,jm 20 6,jb 21 .sub 19 20,jb 22 .shl 17 21,jb 23 .or 16 22,jm 4 23]
def d239:FnD:=⟨24,[.tmp 4],(.sq [jm 4 (.const (.int .u32 0))] (.sq [jc 7 199 [],jm 5 7] (.sq [jm 8 1,jv 9 .u64 8,jm 10 5,jb 11 .sub 10 (ci 1),jv 12 .u64 11,jb 13 .and 9 12,jm 6 13] (.sq Z0eq .ret))))⟩
theorem Z0lm:okF Tryz.prog 239 d239=true:=by kernel_rfl
def Z0ep:Sch:=(.P 0 (jm 9 0) (.P 1 (jm 10 1) (.P 2 (jc 11 239 [9,10]) (.P 3 (jm 12 0) (.P 4 (jm 13 2) (.P 5 (jc 14 239 [12,13]) (.P 6 (jb 15 .xor 11 14) (.P 7 (jm 16 0) (.P 8 (jm 17 3) (.P 9 (jb 18 .shr 16 17) (.P 10 (jb 19 .xor 15 18) (.P 11 (jm 8 19) .nil))))))))))))
def d238:FnD:=⟨20,[.tmp 8],(.sq [jm 8 (.const (.int .u32 0))] (.seq (.draw Z0ep []) .ret))⟩
theorem Z0ll:okF Tryz.prog 238 d238=true:=by kernel_rfl
def Z0eg:LJ:=[jm 11 4,oj 12 (.sla 64 1 1 none none none),jm 13 4,jb 14 .mul (ci 4) 13,jc 15 237 [12,14],jm 10 15,je 16 10 0,je 17 10 1,ji 18 64 1 3 11,js' 1 18 16]
def Z0eh:Sch:=(.P 0 (jm 19 4) (.P 1 (jm 20 4) (.P 2 (jb 21 .sub 20 (ci 2)) (.P 3 (ji 22 64 1 3 21) (.P 6 (jm 25 4) (.P 7 (jb 26 .sub 25 (ci 7)) (.P 8 (ji 27 64 1 3 26) (.P 11 (jm 30 4) (.P 12 (jb 31 .sub 30 (ci 15)) (.P 13 (ji 32 64 1 3 31) (.P 17 (jm 36 4) (.P 18 (jb 37 .sub 36 (ci 16)) (.P 19 (ji 38 64 1 3 37) (.Q 4 (jl 23 1 false 22) (.P 5 (jc 24 238 [23,(ci 17),(ci 19),(ci 10)]) (.Q 9 (jl 28 1 false 27) (.P 10 (jb 29 .add 24 28) (.Q 14 (jl 33 1 false 32) (.P 15 (jc 34 238 [33,(ci 7),(ci 18),(ci 3)]) (.P 16 (jb 35 .add 29 34) (.Q 20 (jl 39 1 false 38) (.P 21 (jb 40 .add 35 39) (.P 22 (ji 41 64 1 3 19) (.e 23 (jo' 1 41 40) .nil))))))))))))))))))))))))
def Z085:IC:=(.sq [jm 7 5,jm 4 7] (.seq (.sq [jm 8 4,jb 9 .lss 8 (ci 16)] (.cond 9 (.sq Z0eg (.exit 1)) .skip)) (.draw Z0eh [23])))
def Z0a8:IC:=(.sq [jb 6 .lss 5 (ci 64)] (.seq (.cond 6 .skip (.exit 0)) (.seq (.block 1 Z085) (.ops [jb 42 .add 5 (ci 1),jm 5 42]))))
def Z084:IC:=(.loop Z0a8)
def d231:FnD:=⟨44,[.cell 2 64 true],(.sq [jx 1 26 0,ja 2 250 [.ints .u32 64 (replicate 64 0)]] (.sq [ja 3 250 [.ints .u32 64 (replicate 64 0)]] (.seq (.sq [jm 5 (ci 0)] (.block 0 Z084)) (.sq [jl 43 64 true 3,js' 64 2 43] .ret))))⟩
theorem Z0le:okF Tryz.prog 231 d231=true:=by kernel_rfl
def Z0ei:LJ:=[jm 9 0,jm 10 1,jc 11 239 [9,10],jm 12 0,jm 13 2,jc 14 239 [12,13],jb 15 .xor 11 14,jm 16 0,jm 17 3,jc 18 239 [16,17],jb 19 .xor 15 18,jm 8 19]
def d232:FnD:=⟨20,[.tmp 8],(.sq [jm 8 (.const (.int .u32 0))] (.sq Z0ei .ret))⟩
theorem Z0lf:okF Tryz.prog 232 d232=true:=by kernel_rfl
def Z0e9:Sch:=(.P 0 (ji 19 8 1 2 (ci 0)) (.P 2 (ji 21 8 1 2 (ci 1)) (.P 4 (ji 23 8 1 2 (ci 2)) (.P 6 (ji 25 8 1 2 (ci 3)) (.P 8 (ji 27 8 1 2 (ci 4)) (.P 10 (ji 29 8 1 2 (ci 5)) (.P 12 (ji 31 8 1 2 (ci 6)) (.P 14 (ji 33 8 1 2 (ci 7)) (.Q 1 (jl 20 1 false 19) (.P 16 (jm 5 20) (.Q 3 (jl 22 1 false 21) (.P 17 (jm 6 22) (.Q 5 (jl 24 1 false 23) (.P 18 (jm 7 24) (.Q 7 (jl 26 1 false 25) (.P 19 (jm 8 26) (.Q 9 (jl 28 1 false 27) (.P 20 (jm 9 28) (.Q 11 (jl 30 1 false 29) (.P 21 (jm 10 30) (.Q 13 (jl 32 1 false 31) (.P 22 (jm 11 32) (.Q 15 (jl 34 1 false 33) (.P 23 (jm 12 34) .nil))))))))))))))))))))))))
def Z0ea:Sch:=(.P 0 (jm 41 12) (.P 1 (jm 42 9) (.P 2 (jc 43 232 [42,(ci 6),(ci 11),(ci 25)]) (.P 3 (jb 44 .add 41 43) (.P 4 (jm 45 9) (.P 5 (jm 46 10) (.P 6 (jb 47 .and 45 46) (.P 7 (jm 48 9) (.P 8 (oj 49 (.un .xor 48)) (.P 9 (jm 50 11) (.P 10 (jb 51 .and 49 50) (.P 11 (jb 52 .xor 47 51) (.P 12 (jb 53 .add 44 52) (.P 13 (jm 54 13) (.P 14 (ji 55 64 1 (.global 6) 54) (.P 17 (jm 58 14) (.Q 15 (jl 56 1 false 55) (.P 16 (jb 57 .add 53 56) (.P 18 (jb 59 .add 57 58) (.P 19 (jm 15 59) .nil))))))))))))))))))))
def Z0eb:LJ:=[jm 60 5,jc 61 232 [60,(ci 2),(ci 13),(ci 22)],jm 62 5,jm 63 6,jb 64 .and 62 63,jm 65 5,jm 66 7,jb 67 .and 65 66,jb 68 .xor 64 67,jm 69 6,jm 70 7,jb 71 .and 69 70,jb 72 .xor 68 71,jb 73 .add 61 72,jm 16 73]
def Z0ec:LJ:=[jm 74 15,jm 75 16,jb 76 .add 74 75,jm 77 5,jm 78 6,jm 79 7,jm 80 8,jm 81 15,jb 82 .add 80 81,jm 83 9,jm 84 10,jm 85 11,jm 5 76,jm 6 77,jm 7 78,jm 8 79,jm 9 82,jm 10 83,jm 11 84,jm 12 85]
def Z07x:IC:=(.sq [jm 39 37,oj 40 (.idx 64 1 false 36 37),jm 13 39,jm 14 40] (.seq (.draw Z0ea []) (.sq Z0eb (.ops Z0ec))))
def Z0a4:IC:=(.sq [jb 38 .lss 37 (ci 64)] (.seq (.cond 38 .skip (.exit 0)) (.seq (.block 1 Z07x) (.ops [jb 86 .add 37 (ci 1),jm 37 86]))))
def Z07w:IC:=(.loop Z0a4)
def Z0ed:LJ:=[jm 87 5,jm 88 6,jm 89 7,jm 90 8,jm 91 9,jm 92 10,jm 93 11,jm 94 12,jd 95 [.ints .u32 8 (replicate 8 0)] [(0,1,87),(1,1,88),(2,1,89),(3,1,90),(4,1,91),(5,1,92),(6,1,93),(7,1,94)],jm 96 (ci 0)]
def Z07z:IC:=(.sq [jm 98 96,oj 99 (.idx 8 1 false 95 96),jm 17 98,jm 18 99] (.ops [jm 100 17,ji 101 8 1 2 100,jl 102 1 false 101,jm 103 18,jb 104 .add 102 103,ji 105 8 1 2 100,js' 1 105 104]))
def Z0a5:IC:=(.sq [jb 97 .lss 96 (ci 8)] (.seq (.cond 97 .skip (.exit 2)) (.seq (.block 3 Z07z) (.ops [jb 106 .add 96 (ci 1),jm 96 106]))))
def Z07y:IC:=(.loop Z0a5)
def d228:FnD:=⟨108,[.cell 4 8 true],(.sq [jx 2 245 0,jx 3 26 1,ja 4 245 [.ints .u32 8 (replicate 8 0)]] (.seq (.draw Z0e9 []) (.seq (.sq [jl 35 64 true 3,jc 36 231 [35],jm 37 (ci 0)] (.block 0 Z07w)) (.seq (.sq Z0ed (.block 2 Z07y)) (.sq [jl 107 8 true 2,js' 8 4 107] .ret)))))⟩
theorem Z0lb:okF Tryz.prog 228 d228=true:=by kernel_rfl
def Z0e2:Sch:=(.P 0 (jm 8 0) (.P 1 (jz 9 8) (.P 2 (jf 10 8 9) (.P 3 (jm 11 0) (.P 4 (jz 12 11) (.P 5 (jf 13 72 12) (.P 9 (jm 17 1) (.Q 6 (jl 14 1 false 13) (.P 7 (jb 15 .rem 14 (cu 64)) (.P 8 (oj 16 (.sla 64 1 10 (some 15) none none)) (.e 10 (oi 18 (.cpy 1 16 17)) (.P 11 (jm 4 18) .nil))))))))))))
def Z0e3:LJ:=[jm 22 0,jz 23 22,jf 24 72 23,jl 25 1 false 24,jm 26 4,jv 27 .u64 26,jb 28 .add 25 27,jz 29 22,jf 30 72 29,js' 1 30 28]
def Z0e4:Sch:=(.P 0 (jm 37 0) (.P 1 (jm 38 0) (.P 2 (jz 39 38) (.P 3 (jf 40 0 39) (.P 5 (jm 42 0) (.P 6 (jz 43 42) (.P 7 (jf 44 8 43) (.Q 4 (jl 41 8 true 40) (.Q 8 (jl 45 64 true 44) (.P 9 (jc 46 228 [41,45]) (.P 10 (jz 47 37) (.P 11 (jf 48 0 47) (.e 12 (jo' 8 48 46) .nil)))))))))))))
def Z07p:IC:=(.seq (.draw Z0e2 [10]) (.sq [jm 19 1,jm 20 4,oj 21 (.sls 1 19 (some 20) none none),jm 1 21] (.sq Z0e3 (.sq [jm 31 0,jz 32 31,jf 33 72 32,jl 34 1 false 33,jb 35 .rem 34 (cu 64),jb 36 .eql 35 (cu 0)] (.cond 36 (.draw Z0e4 [12]) .skip)))))
def Z0a0:IC:=(.seq (.sq [jm 5 1,jn' 6 5,jb 7 .gtr 6 (ci 0)] (.cond 7 .skip (.exit 0))) (.block 1 Z07p))
def Z07o:IC:=(.loop Z0a0)
def d224:FnD:=⟨49,[],(.block 0 Z07o)⟩
theorem Z0l7:okF Tryz.prog 224 d224=true:=by kernel_rfl
def Z06b:IC:=(.sq [jm 15 3,jm 16 4,jm 17 0,jv 18 .u8 17,ji' 19 1 15 16,js' 1 19 18] (.ops [jm 20 0,jb 21 .shr 20 (cu 8),jm 0 21]))
def Z09b:IC:=(.seq (.sq [jm 11 4,jb 12 .geq 11 (ci 0)] (.cond 12 .skip (.exit 0))) (.seq (.block 1 Z06b) (.ops [jm 13 4,jb 14 .sub 13 (ci 1),jm 4 14])))
def Z06a:IC:=(.loop Z09b)
def d148:FnD:=⟨23,[.tmp 2],(.sq [jm 2 (.const (.slice none 0 0))] (.sq [jc 5 199 [],jb 6 .quo 5 (ci 8),oj 7 (.mks 5 1 [.one (.int .u8 0)] 6 6),jm 3 7] (.seq (.sq [jm 8 3,jn' 9 8,jb 10 .sub 9 (ci 1),jm 4 10] (.block 0 Z06a)) (.sq [jm 22 3,jm 2 22] .ret))))⟩
theorem Z0jq:okF Tryz.prog 148 d148=true:=by kernel_rfl
def Z071:IC:=(.ops [jm 9 1,jb 10 .add 9 (ci 1),jm 1 10])
def Z09o:IC:=(.seq (.sq [jm 5 2,jb 6 .neq 5 (cu 0)] (.cond 6 .skip (.exit 0))) (.seq (.block 1 Z071) (.ops [jm 7 2,jb 8 .shr 7 (cu 1),jm 2 8])))
def Z070:IC:=(.loop Z09o)
def d183:FnD:=⟨12,[.tmp 0],(.sq [jm 0 (ci 0)] (.sq [jm 1 (ci 0)] (.seq (.sq [jv 3 .u64 (ci 0),oj 4 (.un .xor 3),jm 2 4] (.block 0 Z070)) (.sq [jm 11 1,jm 0 11] .ret))))⟩
theorem Z0k8:okF Tryz.prog 183 d183=true:=by kernel_rfl
def Z05v:IC:=(.sq [jm 15 3,jm 16 4,jm 17 0,jv 18 .u8 17,ji' 19 1 15 16,js' 1 19 18] (.ops [jm 20 0,jb 21 .shr 20 (cu 8),jm 0 21]))
def Z093:IC:=(.seq (.sq [jm 11 4,jb 12 .geq 11 (ci 0)] (.cond 12 .skip (.exit 0))) (.seq (.block 1 Z05v) (.ops [jm 13 4,jb 14 .sub 13 (ci 1),jm 4 14])))
def Z05u:IC:=(.loop Z093)
def d118:FnD:=⟨23,[.tmp 2],(.sq [jm 2 (.const (.slice none 0 0))] (.sq [jc 5 183 [],jb 6 .quo 5 (ci 8),oj 7 (.mks 5 1 [.one (.int .u8 0)] 6 6),jm 3 7] (.seq (.sq [jm 8 3,jn' 9 8,jb 10 .sub 9 (ci 1),jm 4 10] (.block 0 Z05u)) (.sq [jm 22 3,jm 2 22] .ret))))⟩
theorem Z0j6:okF Tryz.prog 118 d118=true:=by kernel_rfl
def Z0ee:LJ:=[jm 5 0,jb 6 .rem 5 (cu 64),jv 7 .i64 6,jb 8 .add 7 (ci 9),jb 9 .rem 8 (ci 64),jb 10 .sub (ci 64) 9,jb 11 .rem 10 (ci 64),jm 3 11]
def Z0ef:LJ:=[jm 12 3,jb 13 .add (ci 1) 12,jm 14 3,jb 15 .add (ci 1) 14,jb 16 .add 15 (ci 8),oj 17 (.mks 5 1 [.one (.int .u8 0)] 13 16),jm 4 17]
def d229:FnD:=⟨25,[.tmp 2],(.sq [jm 2 (.const (.slice none 0 0))] (.sq Z0ee (.sq Z0ef (.sq [jm 18 4,ji' 19 1 18 (ci 0),js' 1 19 (c8 128)] (.sq [jm 20 4,jm 21 0,jb 22 .mul 21 (cu 8),jc 23 118 [22],oj 24 (.app 5 1 1 [.one (.int .u8 0)] 20 23),jm 2 24] .ret)))))⟩
theorem Z0lc:okF Tryz.prog 229 d229=true:=by kernel_rfl
def Z0e5:LJ:=[jm 7 0,jz 8 7,jl 9 73 true 8,ja 3 247 [.ints .u32 8 (replicate 8 0),.ints .u8 64 (replicate 64 0),.one (.int .u64 0)],js' 73 3 9]
def Z0e6:Sch:=(.P 0 (jm 22 5) (.P 1 (jb 23 .mul (ci 4) 22) (.P 2 (oj 24 (.sla 32 1 4 (some 23) none none)) (.P 3 (jm 25 6) (.e 4 (oi 26 (.call 148 [25])) (.e 5 (oi 27 (.cpy 1 24 26)) .nil))))))
def Z07r:IC:=(.sq [jm 20 18,oj 21 (.idx 8 1 false 17 18),jm 5 20,jm 6 21] (.draw Z0e6 [5]))
def Z0a1:IC:=(.sq [jb 19 .lss 18 (ci 8)] (.seq (.cond 19 .skip (.exit 0)) (.seq (.block 1 Z07r) (.ops [jb 28 .add 18 (ci 1),jm 18 28]))))
def Z07q:IC:=(.loop Z0a1)
def d225:FnD:=⟨30,[.cell 2 32 true],(.sq [ja 2 23 [.ints .u8 32 (replicate 32 0)]] (.sq Z0e5 (.sq [jm 10 0,jz 11 10,jf 12 72 11,jl 13 1 false 12,jc 14 229 [13],jc 15 224 [3,14]] (.sq [ja 4 23 [.ints .u8 32 (replicate 32 0)]] (.seq (.sq [jf 16 0 3,jl 17 8 true 16,jm 18 (ci 0)] (.block 0 Z07q)) (.sq [jl 29 32 true 4,js' 32 2 29] .ret))))))⟩
theorem Z0l8:okF Tryz.prog 225 d225=true:=by kernel_rfl
def d214:FnD:=⟨10,[.cell 2 32 true],(.sq [ja 2 23 [.ints .u8 32 (replicate 32 0)]] (.sq [jc 4 223 [],jm 3 4] (.sq [jm 5 3,jm 6 0,jc 7 224 [5,6]] (.sq [jm 8 3,jc 9 225 [8],js' 32 2 9] .ret))))⟩
theorem Z0kx:okF Tryz.prog 214 d214=true:=by kernel_rfl
def Z05r:IC:=(.sq [ji' 13 1 9 11,jl 14 1 false 13,jm 5 14] (.ops [jm 15 3,jm 16 5,jn' 17 16,jb 18 .add 15 17,jm 3 18]))
def Z091:IC:=(.sq [jb 12 .lss 11 10] (.seq (.cond 12 .skip (.exit 0)) (.seq (.block 1 Z05r) (.ops [jb 19 .add 11 (ci 1),jm 11 19]))))
def Z05q:IC:=(.loop Z091)
def Z05t:IC:=(.sq [ji' 26 1 22 24,jl 27 1 false 26,jm 8 27] (.ops [jm 28 6,jm 29 8,oj 30 (.app 5 1 1 [.one (.int .u8 0)] 28 29),jm 6 30]))
def Z092:IC:=(.sq [jb 25 .lss 24 23] (.seq (.cond 25 .skip (.exit 2)) (.seq (.block 3 Z05t) (.ops [jb 31 .add 24 (ci 1),jm 24 31]))))
def Z05s:IC:=(.loop Z092)
def d117:FnD:=⟨33,[.tmp 2],(.sq [jm 2 (.const (.slice none 0 0))] (.sq [jm 3 (ci 0)] (.seq (.sq [jm 9 0,jn' 10 9,jm 11 (ci 0)] (.block 0 Z05q)) (.sq [jm 20 3,oj 21 (.mks 5 1 [.one (.int .u8 0)] (ci 0) 20),jm 6 21] (.seq (.sq [jm 22 0,jn' 23 22,jm 24 (ci 0)] (.block 2 Z05s)) (.sq [jm 32 6,jm 2 32] .ret))))))⟩
theorem Z0j5:okF Tryz.prog 117 d117=true:=by kernel_rfl
def Z0n3:LJ:=[jm 7 0,jm 8 1,jb 9 .geq 7 8,jm 10 9,.lg false 10 14 none [.op ⟨some 11,(some (10,true)),.mv 0⟩,.op ⟨some 12,(some (10,true)),.mv 2⟩,.op ⟨some 13,(some (10,true)),.bin .leq 11 12⟩] 13,jm 6 14]
def d62:FnD:=⟨15,[.tmp 6],(.sq [jm 6 (.const (.bool false))] (.sq Z0n3 .ret))⟩
theorem ok62:okF Tryz.prog 62 d62=true:=by kernel_rfl
def Z0mb:LJ:=[jf 5 0 1,jl 6 1 false 5,jc 7 62 [6,(ci 1),(ci 16)],jm 8 7,.lg false 8 12 none [.op ⟨some 9,(some (8,true)),.fa 1 1⟩,.op ⟨some 10,(some (8,true)),.ld 1 false 9⟩,.op ⟨some 11,(some (8,true)),.call 62 [10,(ci 1),(ci 8)]⟩] 11,jm 3 12]
def Z0mc:LJ:=[jf 13 2 1,jl 14 1 false 13,jc 15 62 [14,(ci 1),(ci 256)],jm 16 15,.lg false 16 20 none [.op ⟨some 17,(some (16,true)),.fa 3 1⟩,.op ⟨some 18,(some (16,true)),.ld 1 false 17⟩,.op ⟨some 19,(some (16,true)),.call 62 [18,(ci 512),(ci 1048576)]⟩] 19,jm 4 20]
def Z0md:LJ:=[jm 21 3,oj 22 (.un .not 21),jm 23 22,.lg true 23 26 none [.op ⟨some 24,(some (23,false)),.mv 4⟩,.op ⟨some 25,(some (23,false)),.un .not 24⟩] 25,jm 27 26,.lg true 27 32 none [.op ⟨some 28,(some (27,false)),.fa 4 1⟩,.op ⟨some 29,(some (27,false)),.ld 1 false 28⟩,.op ⟨some 30,(some (27,false)),.call 62 [29,(ci 1),(ci 65535)]⟩,.op ⟨some 31,(some (27,false)),.un .not 30⟩] 31]
def d17:FnD:=⟨33,[.tmp 2],(.sq [jx 1 34 0,jm 2 (ci 0)] (.sq Z0mb (.sq Z0mc (.seq (.sq Z0md (.cond 32 (.sq [jm 2 (ci 4)] .ret) .skip)) (.sq [jm 2 (ci 0)] .ret)))))⟩
theorem ok17:okF Tryz.prog 17 d17=true:=by kernel_rfl
def Z0me:LJ:=[jf 3 0 1,jl 4 1 false 3,jb 5 .lss 4 (ci 1),jm 6 5,.lg true 6 10 none [.op ⟨some 7,(some (6,false)),.fa 0 1⟩,.op ⟨some 8,(some (6,false)),.ld 1 false 7⟩,.op ⟨some 9,(some (6,false)),.bin .gtr 8 (ci 16)⟩] 9,jm 11 10,.lg true 11 15 none [.op ⟨some 12,(some (11,false)),.fa 1 1⟩,.op ⟨some 13,(some (11,false)),.ld 1 false 12⟩,.op ⟨some 14,(some (11,false)),.bin .lss 13 (ci 1)⟩] 14,jm 16 15,.lg true 16 20 none [.op ⟨some 17,(some (16,false)),.fa 1 1⟩,.op ⟨some 18,(some (16,false)),.ld 1 false 17⟩,.op ⟨some 19,(some (16,false)),.bin .gtr 18 (ci 8)⟩] 19,jm 21 20,.lg true 21 25 none [.op ⟨some 22,(some (21,false)),.fa 2 1⟩,.op ⟨some 23,(some (21,false)),.ld 1 false 22⟩,.op ⟨some 24,(some (21,false)),.bin .lss 23 (ci 1)⟩] 24,jm 26 25,.lg true 26 30 none [.op ⟨some 27,(some (26,false)),.fa 2 1⟩,.op ⟨some 28,(some (26,false)),.ld 1 false 27⟩,.op ⟨some 29,(some (26,false)),.bin .gtr 28 (ci 256)⟩] 29]
def Z0mf:LJ:=[jf 31 3 1,jl 32 1 false 31,jb 33 .lss 32 (ci 512),jm 34 33,.lg true 34 38 none [.op ⟨some 35,(some (34,false)),.fa 3 1⟩,.op ⟨some 36,(some (34,false)),.ld 1 false 35⟩,.op ⟨some 37,(some (34,false)),.bin .gtr 36 (ci 1048576)⟩] 37,jm 39 38,.lg true 39 43 none [.op ⟨some 40,(some (39,false)),.fa 4 1⟩,.op ⟨some 41,(some (39,false)),.ld 1 false 40⟩,.op ⟨some 42,(some (39,false)),.bin .lss 41 (ci 1)⟩] 42,jm 44 43,.lg true 44 48 none [.op ⟨some 45,(some (44,false)),.fa 4 1⟩,.op ⟨some 46,(some (44,false)),.ld 1 false 45⟩,.op ⟨some 47,(some (44,false)),.bin .gtr 46 (ci 65535)⟩] 47]
def d18:FnD:=⟨49,[.tmp 2],(.sq [jx 1 34 0,jm 2 (ci 0)] (.seq (.sq Z0me (.cond 30 (.sq [jm 2 (ci 4)] .ret) .skip)) (.seq (.sq Z0mf (.cond 48 (.sq [jm 2 (ci 4)] .ret) .skip)) (.sq [jm 2 (ci 0)] .ret))))⟩
theorem ok18:okF Tryz.prog 18 d18=true:=by kernel_rfl
def d213:FnD:=⟨8,[.tmp 6],(.sq [jx 3 3 0,jx 4 238 1,jx 5 217 2,jm 6 (.const (.nilFunc))] (.sq [oj 7 (.mf 221 [3,5,4]),jm 6 7] .ret))⟩
theorem Z0kw:okF Tryz.prog 213 d213=true:=by kernel_rfl
def d184:FnD:=⟨9,[.cell 4 32 true],(.sq [ja 4 23 [.ints .u8 32 (replicate 32 0)]] (.sq [jc 5 213 [(ci 64),(.func 214),(.func 215)],jm 6 0,jm 7 1,oj 8 (.cv 5 [6,7]),js' 32 4 8] .ret))⟩
theorem Z0k9:okF Tryz.prog 184 d184=true:=by kernel_rfl
def Z0bm:LJ:=[jm 12 2,jb 13 .lss 12 (ci 0),jm 14 13,.lg true 14 17 none [.op ⟨some 15,(some (14,false)),.mv 2⟩,.op ⟨some 16,(some (14,false)),.bin .gtr 15 (ci 8160)⟩] 16]
def Z0bn:Sch:=(.P 0 (oj 27 (.sla 32 1 3 none none none)) (.P 1 (jm 28 9) (.P 2 (jm 29 1) (.P 3 (jm 30 10) (.two 4 (oi 31 (.bs 5 1 1 [.one (.int .u8 0)] [(0,1,30)])) (.two 5 (oi 32 (.bs 24 3 1 [.one (.slice none 0 0),.one (.slice none 0 0),.one (.slice none 0 0)] [(0,1,28),(1,1,29),(2,1,31)])) (.two 6 (oi 33 (.call 117 [32])) (.two 7 (oi 34 (.call 184 [27,33])) (.e 8 (oi 11 (.al 23 [.ints .u8 32 (replicate 32 0)])) (.e 9 (jo' 32 11 34) .nil))
 8 ⟨some 11,none,.al 23 [.ints .u8 32 (replicate 32 0)]⟩ (.e 7 (oi 34 (.call 184 [27,33])) (.e 9 (jo' 32 11 34) .nil)))
 8 ⟨some 11,none,.al 23 [.ints .u8 32 (replicate 32 0)]⟩ (.e 6 (oi 33 (.call 117 [32])) (.e 7 (oi 34 (.call 184 [27,33])) (.e 9 (jo' 32 11 34) .nil))))
 8 ⟨some 11,none,.al 23 [.ints .u8 32 (replicate 32 0)]⟩ (.e 5 (oi 32 (.bs 24 3 1 [.one (.slice none 0 0),.one (.slice none 0 0),.one (.slice none 0 0)] [(0,1,28),(1,1,29),(2,1,31)])) (.e 6 (oi 33 (.call 117 [32])) (.e 7 (oi 34 (.call 184 [27,33])) (.e 9 (jo' 32 11 34) .nil)))))
 8 ⟨some 11,none,.al 23 [.ints .u8 32 (replicate 32 0)]⟩ (.e 4 (oi 31 (.bs 5 1 1 [.one (.int .u8 0)] [(0,1,30)])) (.e 5 (oi 32 (.bs 24 3 1 [.one (.slice none 0 0),.one (.slice none 0 0),.one (.slice none 0 0)] [(0,1,28),(1,1,29),(2,1,31)])) (.e 6 (oi 33 (.call 117 [32])) (.e 7 (oi 34 (.call 184 [27,33])) (.e 9 (jo' 32 11 34) .nil))))))))))
def Z05x:IC:=(.seq (.draw Z0bn [9]) (.sq [oj 35 (.sla 32 1 11 none none none),jm 9 35] (.ops [jm 36 8,jm 37 9,oj 38 (.app 5 1 1 [.one (.int .u8 0)] 36 37),jm 8 38])))
def Z094:IC:=(.seq (.sq [jm 21 8,jn' 22 21,jm 23 2,jb 24 .lss 22 23] (.cond 24 .skip (.exit 0))) (.seq (.block 1 Z05x) (.ops [jm 25 10,jb 26 .add 25 (c8 1),jm 10 26])))
def Z05w:IC:=(.loop Z094)
def d119:FnD:=⟨43,[.tmp 6,.tmp 7],(.sq [jx 3 23 0,jm 6 (.const (.slice none 0 0)),jm 7 (.const (.bool false))] (.seq (.sq Z0bm (.cond 17 (.sq [jm 6 (.const (.slice none 0 0)),jm 7 (.const (.bool false))] .ret) .skip)) (.sq [jm 18 2,jb 19 .add 18 (ci 32),oj 20 (.mks 5 1 [.one (.int .u8 0)] (ci 0) 19),jm 8 20] (.sq [jm 9 (.const (.slice none 0 0))] (.seq (.sq [jm 10 (c8 1)] (.block 0 Z05w)) (.sq [jm 39 8,jm 40 2,jm 41 2,oj 42 (.sls 1 39 none (some 40) (some 41)),jm 6 42,jm 7 (.const (.bool true))] .ret))))))⟩
theorem Z0j7:okF Tryz.prog 119 d119=true:=by kernel_rfl
def Z0n4:LJ:=[jm 12 1,oj 13 (.lens 12),jb 14 .gtr 13 (ci 32),jm 15 14,.lg true 15 18 none [.op ⟨some 16,(some (15,false)),.mv 2⟩,.op ⟨some 17,(some (15,false)),.bin .lss 16 (ci 0)⟩] 17,jm 19 18,.lg true 19 22 none [.op ⟨some 20,(some (19,false)),.mv 2⟩,.op ⟨some 21,(some (19,false)),.bin .gtr 20 (ci 2147483647)⟩] 21]
def Z0n5:LJ:=[jm 24 1,oj 25 (.s2b 5 24),oj 26 (.bs 5 1 1 [.one (.int .u8 0)] [(0,1,(c8 0))]),jm 27 2,jv 28 .u64 27,jc 29 118 [28],oj 30 (.bs 24 3 1 [.one (.slice none 0 0),.one (.slice none 0 0),.one (.slice none 0 0)] [(0,1,25),(1,1,26),(2,1,29)]),jc 31 117 [30],jm 8 31]
def d63:FnD:=⟨42,[.cell 6 32 true,.tmp 7],(.sq [jx 3 23 0,ja 6 23 [.ints .u8 32 (replicate 32 0)],jm 7 (.const (.bool false))] (.seq (.sq Z0n4 (.cond 22 (.sq [jd 23 [.ints .u8 32 (replicate 32 0)] [],js' 32 6 23,jm 7 (.const (.bool false))] .ret) .skip)) (.sq Z0n5 (.sq [jl 33 32 true 3,jm 34 8,jc 35 119 [33,34,(ci 32)],jm 32 35,je 36 32 0,je 37 32 1,jm 9 36,jm 10 37] (.sq [ja 11 23 [.ints .u8 32 (replicate 32 0)]] (.sq [oj 38 (.sla 32 1 11 none none none),jm 39 9,oj 40 (.cpy 1 38 39)] (.sq [jl 41 32 true 11,js' 32 6 41,jm 7 (.const (.bool true))] .ret)))))))⟩
theorem ok63:okF Tryz.prog 63 d63=true:=by kernel_rfl
def Z0mg:LJ:=[jl 6 37 true 2,jc 7 17 [6],jb 8 .neq 7 (ci 0),jm 9 8,.lg true 9 18 none [.op ⟨some 10,(some (9,false)),.mv 1⟩,.op ⟨some 11,(some (9,false)),.fa 0 2⟩,.op ⟨some 12,(some (9,false)),.ld 1 false 11⟩,.op ⟨some 13,(some (9,false)),.fa 1 2⟩,.op ⟨some 14,(some (9,false)),.ld 1 false 13⟩,.op ⟨some 15,(some (9,false)),.bin .add 12 14⟩,.op ⟨some 16,(some (9,false)),.call 62 [10,(ci 0),15]⟩,.op ⟨some 17,(some (9,false)),.un .not 16⟩] 17]
def Z0mh:LJ:=[jf 20 5 2,jl 21 32 true 20,jm 22 1,.op ⟨some 23,none,.call 63 [21,(.const (.string ⟨#[110,111,100,101]⟩)),22]⟩,je 24 23 0,je 25 23 1,js' 32 4 24,jm 5 25]
def d19:FnD:=⟨26,[.cell 4 32 true,.tmp 5],(.sq [jx 2 34 0,ja 4 23 [.ints .u8 32 (replicate 32 0)],jm 5 (.const (.bool false))] (.seq (.sq Z0mg (.cond 18 (.sq [jd 19 [.ints .u8 32 (replicate 32 0)] [],js' 32 4 19,jm 5 (.const (.bool false))] .ret) .skip)) (.sq Z0mh .ret)))⟩
theorem ok19:okF Tryz.prog 19 d19=true:=by kernel_rfl
def Z0bl:LJ:=[jm 14 3,jm 15 0,jm 16 5,jb 17 .shr 15 16,jv 18 .u8 17,oj 19 (.bs 5 1 1 [.one (.int .u8 0)] [(0,1,18)]),oj 20 (.app 5 1 1 [.one (.int .u8 0)] 14 19),jm 3 20]
def Z05p:IC:=(.sq [jm 10 4,jb 11 .mul (ci 8) 10,jb 12 .sub (ci 56) 11,jv 13 .u64 12,jm 5 13] (.ops Z0bl))
def Z090:IC:=(.seq (.sq [jm 6 4,jb 7 .lss 6 (ci 8)] (.cond 7 .skip (.exit 0))) (.seq (.block 1 Z05p) (.ops [jm 8 4,jb 9 .add 8 (ci 1),jm 4 9])))
def Z05o:IC:=(.loop Z090)
def d111:FnD:=⟨22,[.tmp 2],(.sq [jm 2 (.const (.slice none 0 0))] (.sq [jm 3 (.const (.slice none 0 0))] (.seq (.sq [jm 4 (ci 0)] (.block 0 Z05o)) (.sq [jm 21 3,jm 2 21] .ret))))⟩
theorem Z0j4:okF Tryz.prog 111 d111=true:=by kernel_rfl
def Z0bi:LJ:=[jm 16 3,oj 17 (.bs 5 1 1 [.one (.int .u8 0)] [(0,1,(c8 0))]),oj 18 (.app 5 1 1 [.one (.int .u8 0)] 16 17),jm 3 18]
def Z05j:IC:=(.ops Z0bi)
def Z08x:IC:=(.seq (.sq [jm 9 4,jm 10 3,jn' 11 10,jb 12 .add 9 11,jb 13 .add 12 (ci 16),jb 14 .rem 13 (ci 128),jb 15 .neq 14 (ci 0)] (.cond 15 .skip (.exit 0))) (.block 1 Z05j))
def Z05i:IC:=(.loop Z08x)
def Z0bj:LJ:=[jm 19 3,jm 20 0,jb 21 .quo 20 (cu 2305843009213693952),jc 22 111 [21],oj 23 (.app 5 1 1 [.one (.int .u8 0)] 19 22),jm 3 23]
def d109:FnD:=⟨29,[.tmp 2],(.sq [jm 2 (.const (.slice none 0 0))] (.sq [oj 5 (.bs 5 1 1 [.one (.int .u8 0)] [(0,1,(c8 128))]),jm 3 5] (.sq [jm 6 0,jb 7 .rem 6 (cu 128),jv 8 .i64 7,jm 4 8] (.seq (.block 0 Z05i) (.sq Z0bj (.sq [jm 24 3,jm 25 0,jb 26 .mul 25 (cu 8),jc 27 111 [26],oj 28 (.app 5 1 1 [.one (.int .u8 0)] 24 27),jm 2 28] .ret))))))⟩
theorem Z0j2:okF Tryz.prog 109 d109=true:=by kernel_rfl
def Z0ds:LJ:=[jm 9 3,jb 10 .mul 9 (cu 256),jm 11 0,jm 12 4,ji' 13 1 11 12,jl 14 1 false 13,jv 15 .u64 14,jb 16 .add 10 15,jm 3 16]
def Z07j:IC:=(.ops Z0ds)
def Z09x:IC:=(.seq (.sq [jm 5 4,jb 6 .lss 5 (ci 8)] (.cond 6 .skip (.exit 0))) (.seq (.block 1 Z07j) (.ops [jm 7 4,jb 8 .add 7 (ci 1),jm 4 8])))
def Z07i:IC:=(.loop Z09x)
def d209:FnD:=⟨18,[.tmp 2],(.sq [jm 2 (cu 0)] (.sq [jm 3 (cu 0)] (.seq (.sq [jm 4 (ci 0)] (.block 0 Z07i)) (.sq [jm 17 3,jm 2 17] .ret))))⟩
theorem Z0ks:okF Tryz.prog 209 d209=true:=by kernel_rfl
def d212:FnD:=⟨13,[.tmp 4],(.sq [jm 4 (cu 0)] (.sq [jm 5 0,jm 6 1,jb 7 .shr 5 6,jm 8 0,jm 9 1,jb 10 .sub (cu 64) 9,jb 11 .shl 8 10,jb 12 .or 7 11,jm 4 12] .ret))⟩
theorem Z0kv:okF Tryz.prog 212 d212=true:=by kernel_rfl
def Z0dt:LJ:=[jm 3 0,jc 4 212 [3,(cu 19)],jm 5 0,jc 6 212 [5,(cu 61)],jb 7 .xor 4 6,jm 8 0,jb 9 .shr 8 (cu 6),jb 10 .xor 7 9,jm 2 10]
def d210:FnD:=⟨11,[.tmp 2],(.sq [jm 2 (cu 0)] (.sq Z0dt .ret))⟩
theorem Z0kt:okF Tryz.prog 210 d210=true:=by kernel_rfl
def Z0du:LJ:=[jm 3 0,jc 4 212 [3,(cu 1)],jm 5 0,jc 6 212 [5,(cu 8)],jb 7 .xor 4 6,jm 8 0,jb 9 .shr 8 (cu 7),jb 10 .xor 7 9,jm 2 10]
def d211:FnD:=⟨11,[.tmp 2],(.sq [jm 2 (cu 0)] (.sq Z0du .ret))⟩
theorem Z0ku:okF Tryz.prog 211 d211=true:=by kernel_rfl
def Z0d1:LJ:=[jm 10 3,jm 11 0,jm 12 4,jb 13 .mul (ci 8) 12,jm 14 4,jb 15 .mul (ci 8) 14,jb 16 .add 15 (ci 8),oj 17 (.sls 1 11 (some 13) (some 16) none),jc 18 209 [17],oj 19 (.bs 78 1 1 [.one (.int .u64 0)] [(0,1,18)]),oj 20 (.app 78 1 8 [.one (.int .u64 0)] 10 19),jm 3 20]
def Z06x:IC:=(.ops Z0d1)
def Z09m:IC:=(.seq (.sq [jm 6 4,jb 7 .lss 6 (ci 16)] (.cond 7 .skip (.exit 0))) (.seq (.block 1 Z06x) (.ops [jm 8 4,jb 9 .add 8 (ci 1),jm 4 9])))
def Z06w:IC:=(.loop Z09m)
def Z0d2:Sch:=(.P 0 (jm 25 3) (.P 1 (jm 26 3) (.P 2 (jm 27 5) (.P 3 (jb 28 .sub 27 (ci 2)) (.P 4 (ji' 29 1 26 28) (.P 7 (jm 32 3) (.P 8 (jm 33 5) (.P 9 (jb 34 .sub 33 (ci 7)) (.P 10 (ji' 35 1 32 34) (.P 13 (jm 38 3) (.P 14 (jm 39 5) (.P 15 (jb 40 .sub 39 (ci 15)) (.P 16 (ji' 41 1 38 40) (.P 20 (jm 45 3) (.P 21 (jm 46 5) (.P 22 (jb 47 .sub 46 (ci 16)) (.P 23 (ji' 48 1 45 47) (.Q 5 (jl 30 1 false 29) (.P 6 (jc 31 210 [30]) (.Q 11 (jl 36 1 false 35) (.P 12 (jb 37 .add 31 36) (.Q 17 (jl 42 1 false 41) (.P 18 (jc 43 211 [42]) (.P 19 (jb 44 .add 37 43) (.Q 24 (jl 49 1 false 48) (.P 25 (jb 50 .add 44 49) (.e 26 (oi 51 (.bs 78 1 1 [.one (.int .u64 0)] [(0,1,50)])) (.e 27 (oi 52 (.app 78 1 8 [.one (.int .u64 0)] 25 51)) (.P 28 (jm 3 52) .nil)))))))))))))))))))))))))))))
def Z06z:IC:=(.draw Z0d2 [27])
def Z09n:IC:=(.seq (.sq [jm 21 5,jb 22 .lss 21 (ci 80)] (.cond 22 .skip (.exit 2))) (.seq (.block 3 Z06z) (.ops [jm 23 5,jb 24 .add 23 (ci 1),jm 5 24])))
def Z06y:IC:=(.loop Z09n)
def d177:FnD:=⟨54,[.tmp 2],(.sq [jm 2 (.const (.slice none 0 0))] (.sq [jm 3 (.const (.slice none 0 0))] (.seq (.sq [jm 4 (ci 0)] (.block 0 Z06w)) (.seq (.sq [jm 5 (ci 16)] (.block 2 Z06y)) (.sq [jm 53 3,jm 2 53] .ret)))))⟩
theorem Z0k6:okF Tryz.prog 177 d177=true:=by kernel_rfl
def Z0d3:LJ:=[jm 17 7,ji 18 8 1 3 (ci 5),jl 19 1 false 18,jb 20 .and 17 19,jm 21 7,oj 22 (.un .xor 21),ji 23 8 1 3 (ci 6),jl 24 1 false 23,jb 25 .and 22 24,jb 26 .xor 20 25,jm 9 26]
def Z0d4:LJ:=[jm 27 8,ji 28 8 1 3 (ci 1),jl 29 1 false 28,jb 30 .and 27 29,jm 31 8,ji 32 8 1 3 (ci 2),jl 33 1 false 32,jb 34 .and 31 33,jb 35 .xor 30 34,ji 36 8 1 3 (ci 1),jl 37 1 false 36,ji 38 8 1 3 (ci 2),jl 39 1 false 38,jb 40 .and 37 39,jb 41 .xor 35 40,jm 10 41]
def Z0d5:Sch:=(.P 0 (ji 42 8 1 3 (ci 7)) (.P 2 (jm 44 7) (.P 3 (jc 45 212 [44,(cu 14)]) (.P 4 (jm 46 7) (.P 5 (jc 47 212 [46,(cu 18)]) (.P 6 (jb 48 .xor 45 47) (.P 7 (jm 49 7) (.P 8 (jc 50 212 [49,(cu 41)]) (.P 9 (jb 51 .xor 48 50) (.P 11 (jm 53 9) (.P 13 (jm 55 1) (.P 15 (jm 57 2) (.Q 1 (jl 43 1 false 42) (.P 10 (jb 52 .add 43 51) (.P 12 (jb 54 .add 52 53) (.P 14 (jb 56 .add 54 55) (.P 16 (jb 58 .add 56 57) (.P 17 (jm 11 58) .nil))))))))))))))))))
def Z0d6:LJ:=[jm 59 8,jc 60 212 [59,(cu 28)],jm 61 8,jc 62 212 [61,(cu 34)],jb 63 .xor 60 62,jm 64 8,jc 65 212 [64,(cu 39)],jb 66 .xor 63 65,jm 67 10,jb 68 .add 66 67,jm 12 68]
def Z0d7:LJ:=[jm 69 11,jm 70 12,jb 71 .add 69 70,ji 72 8 1 3 (ci 0),jl 73 1 false 72,ji 74 8 1 3 (ci 1),jl 75 1 false 74,ji 76 8 1 3 (ci 2),jl 77 1 false 76,ji 78 8 1 3 (ci 3),jl 79 1 false 78,jm 80 11,jb 81 .add 79 80,ji 82 8 1 3 (ci 4),jl 83 1 false 82,ji 84 8 1 3 (ci 5),jl 85 1 false 84,ji 86 8 1 3 (ci 6),jl 87 1 false 86,jd 88 [.ints .u64 8 (replicate 8 0)] [(0,1,71),(1,1,73),(2,1,75),(3,1,77),(4,1,81),(5,1,83),(6,1,85),(7,1,87)],js' 8 6 88]
def d178:FnD:=⟨89,[.cell 6 8 true],(.sq [jx 3 144 0,ja 6 144 [.ints .u64 8 (replicate 8 0)]] (.sq [ji 13 8 1 3 (ci 4),jl 14 1 false 13,jm 7 14] (.sq [ji 15 8 1 3 (ci 0),jl 16 1 false 15,jm 8 16] (.sq Z0d3 (.sq Z0d4 (.seq (.draw Z0d5 []) (.sq Z0d6 (.sq Z0d7 .ret))))))))⟩
theorem Z0k7:okF Tryz.prog 178 d178=true:=by kernel_rfl
def Z0bk:Sch:=(.P 1 (jm 17 7) (.P 2 (ji 18 80 1 (.global 3) 17) (.P 4 (jm 20 5) (.P 5 (jm 21 7) (.P 6 (ji' 22 1 20 21) (.Q 0 (jl 16 8 true 6) (.Q 3 (jl 19 1 false 18) (.Q 7 (jl 23 1 false 22) (.P 8 (jc 24 178 [16,19,23]) (.e 9 (jo' 8 6 24) .nil))))))))))
def Z05l:IC:=(.draw Z0bk [9])
def Z08y:IC:=(.seq (.sq [jm 12 7,jb 13 .lss 12 (ci 80)] (.cond 13 .skip (.exit 0))) (.seq (.block 1 Z05l) (.ops [jm 14 7,jb 15 .add 14 (ci 1),jm 7 15])))
def Z05k:IC:=(.loop Z08y)
def Z02l:Sch:=(.P 0 (jm 29 8) (.P 1 (jm 30 8) (.P 2 (ji 31 8 1 6 30) (.P 4 (jm 33 8) (.P 5 (ji 34 8 1 2 33) (.Q 3 (jl 32 1 false 31) (.Q 6 (jl 35 1 false 34) (.P 7 (jb 36 .add 32 35) (.P 8 (ji 37 8 1 6 29) (.e 9 (jo' 1 37 36) .nil))))))))))
def Z05n:IC:=(.draw Z02l [9])
def Z08z:IC:=(.seq (.sq [jm 25 8,jb 26 .lss 25 (ci 8)] (.cond 26 .skip (.exit 2))) (.seq (.block 3 Z05n) (.ops [jm 27 8,jb 28 .add 27 (ci 1),jm 8 28])))
def Z05m:IC:=(.loop Z08z)
def d110:FnD:=⟨39,[.cell 4 8 true],(.sq [jx 2 144 0,ja 4 144 [.ints .u64 8 (replicate 8 0)]] (.sq [jm 9 1,jc 10 177 [9],jm 5 10] (.sq [jl 11 8 true 2,ja 6 144 [.ints .u64 8 (replicate 8 0)],js' 8 6 11] (.seq (.sq [jm 7 (ci 0)] (.block 0 Z05k)) (.seq (.sq [jm 8 (ci 0)] (.block 2 Z05m)) (.sq [jl 38 8 true 6,js' 8 4 38] .ret))))))⟩
theorem Z0j3:okF Tryz.prog 110 d110=true:=by kernel_rfl
def Z0n2:Sch:=(.P 1 (jm 27 3) (.P 2 (jm 28 5) (.P 3 (jm 29 5) (.P 4 (jb 30 .add 29 (ci 128)) (.P 5 (oj 31 (.sls 1 27 (some 28) (some 30) none)) (.Q 0 (jl 26 8 true 4) (.Q 6 (jc 32 110 [26,31]) (.e 7 (jo' 8 4 32) .nil))))))))
def Z0hg:IC:=(.draw Z0n2 [7])
def Z0ie:IC:=(.seq (.sq [jm 20 5,jm 21 3,jn' 22 21,jb 23 .lss 20 22] (.cond 23 .skip (.exit 0))) (.seq (.block 1 Z0hg) (.ops [jm 24 5,jb 25 .add 24 (ci 128),jm 5 25])))
def Z0hf:IC:=(.loop Z0ie)
def Z0f1:LJ:=[jm 45 7,jb 46 .mul (ci 8) 45,jm 47 9,jb 48 .add 46 47,jm 49 8,jm 50 9,ji' 51 1 49 50,jl 52 1 false 51,ji 53 64 1 6 48,js' 1 53 52]
def Z0hk:IC:=(.ops Z0f1)
def Z0ig:IC:=(.seq (.sq [jm 41 9,jb 42 .lss 41 (ci 8)] (.cond 42 .skip (.exit 4))) (.seq (.block 5 Z0hk) (.ops [jm 43 9,jb 44 .add 43 (ci 1),jm 9 44])))
def Z0hj:IC:=(.loop Z0ig)
def Z0hi:IC:=(.sq [jm 37 7,ji 38 8 1 4 37,jl 39 1 false 38,jc 40 111 [39],jm 8 40] (.sq [jm 9 (ci 0)] (.block 4 Z0hj)))
def Z0if:IC:=(.seq (.sq [jm 33 7,jb 34 .lss 33 (ci 8)] (.cond 34 .skip (.exit 2))) (.seq (.block 3 Z0hi) (.ops [jm 35 7,jb 36 .add 35 (ci 1),jm 7 36])))
def Z0hh:IC:=(.loop Z0if)
def d58:FnD:=⟨55,[.cell 2 64 true],(.sq [ja 2 94 [.ints .u8 64 (replicate 64 0)]] (.sq [jm 3 (.const (.slice none 0 0))] (.sq [jm 10 3,jm 11 0,oj 12 (.app 5 1 1 [.one (.int .u8 0)] 10 11),jm 3 12] (.sq [jm 13 3,jm 14 0,jn' 15 14,jv 16 .u64 15,jc 17 109 [16],oj 18 (.app 5 1 1 [.one (.int .u8 0)] 13 17),jm 3 18] (.sq [jl 19 8 true (.global 0),ja 4 144 [.ints .u64 8 (replicate 8 0)],js' 8 4 19] (.seq (.sq [jm 5 (ci 0)] (.block 0 Z0hf)) (.sq [ja 6 94 [.ints .u8 64 (replicate 64 0)]] (.seq (.sq [jm 7 (ci 0)] (.block 2 Z0hh)) (.sq [jl 54 64 true 6,js' 64 2 54] .ret)))))))))⟩
theorem ok58:okF Tryz.prog 58 d58=true:=by kernel_rfl
def Z0e7:LJ:=[jm 12 4,jm 13 5,ji 14 64 1 3 13,jl 15 1 false 14,oj 16 (.bs 5 1 1 [.one (.int .u8 0)] [(0,1,15)]),oj 17 (.app 5 1 1 [.one (.int .u8 0)] 12 16),jm 4 17]
def Z07t:IC:=(.ops Z0e7)
def Z0a2:IC:=(.seq (.sq [jm 8 5,jb 9 .lss 8 (ci 64)] (.cond 9 .skip (.exit 0))) (.seq (.block 1 Z07t) (.ops [jm 10 5,jb 11 .add 10 (ci 1),jm 5 11])))
def Z07s:IC:=(.loop Z0a2)
def d226:FnD:=⟨19,[.tmp 2],(.sq [jm 2 (.const (.slice none 0 0))] (.sq [jm 6 0,jc 7 58 [6],ja 3 94 [.ints .u8 64 (replicate 64 0)],js' 64 3 7] (.sq [jm 4 (.const (.slice none 0 0))] (.seq (.sq [jm 5 (ci 0)] (.block 0 Z07s)) (.sq [jm 18 4,jm 2 18] .ret)))))⟩
theorem Z0l9:okF Tryz.prog 226 d226=true:=by kernel_rfl
def Z0ej:LJ:=[jm 7 0,jb 8 .rem 7 (cu 64),jm 9 3,jn' 10 9,jv 11 .u64 10,jb 12 .add 8 11,jb 13 .add 12 (cu 8),jb 14 .rem 13 (cu 64),jb 15 .neq 14 (cu 0)]
def Z0ek:LJ:=[jm 16 3,oj 17 (.bs 5 1 1 [.one (.int .u8 0)] [(0,1,(c8 0))]),oj 18 (.app 5 1 1 [.one (.int .u8 0)] 16 17),jm 3 18]
def Z087:IC:=(.ops Z0ek)
def Z0a9:IC:=(.seq (.sq Z0ej (.cond 15 .skip (.exit 0))) (.block 1 Z087))
def Z086:IC:=(.loop Z0a9)
def Z0el:LJ:=[jm 25 3,jm 26 4,jm 27 5,jb 28 .mul (ci 8) 27,jb 29 .shr 26 28,jv 30 .u8 29,oj 31 (.bs 5 1 1 [.one (.int .u8 0)] [(0,1,30)]),oj 32 (.app 5 1 1 [.one (.int .u8 0)] 25 31),jm 3 32]
def Z089:IC:=(.ops Z0el)
def Z0aa:IC:=(.seq (.sq [jm 21 5,jb 22 .geq 21 (ci 0)] (.cond 22 .skip (.exit 2))) (.seq (.block 3 Z089) (.ops [jm 23 5,jb 24 .sub 23 (ci 1),jm 5 24])))
def Z088:IC:=(.loop Z0aa)
def d233:FnD:=⟨34,[.tmp 2],(.sq [jm 2 (.const (.slice none 0 0))] (.sq [oj 6 (.bs 5 1 1 [.one (.int .u8 0)] [(0,1,(c8 128))]),jm 3 6] (.seq (.block 0 Z086) (.sq [jm 19 0,jb 20 .mul 19 (cu 8),jm 4 20] (.seq (.sq [jm 5 (ci 7)] (.block 2 Z088)) (.sq [jm 33 3,jm 2 33] .ret))))))⟩
theorem Z0lg:okF Tryz.prog 233 d233=true:=by kernel_rfl
def Z0em:LJ:=[jd 1 [.ints .u32 8 (replicate 8 0)] [(0,1,(.const (.int .u32 1779033703))),(1,1,(.const (.int .u32 3144134277))),(2,1,(.const (.int .u32 1013904242))),(3,1,(.const (.int .u32 2773480762))),(4,1,(.const (.int .u32 1359893119))),(5,1,(.const (.int .u32 2600822924))),(6,1,(.const (.int .u32 528734635))),(7,1,(.const (.int .u32 1541459225)))],js' 8 0 1]
def d234:FnD:=⟨2,[.cell 0 8 true],(.sq [ja 0 245 [.ints .u32 8 (replicate 8 0)]] (.sq Z0em .ret))⟩
theorem Z0lh:okF Tryz.prog 234 d234=true:=by kernel_rfl
def Z0ey:LJ:=[jm 11 5,jb 12 .mul 11 (.const (.int .u32 256)),jm 13 0,jm 14 1,jm 15 6,jb 16 .add 14 15,ji' 17 1 13 16,jl 18 1 false 17,jv 19 .u32 18,jb 20 .add 12 19,jm 5 20]
def Z08p:IC:=(.ops Z0ey)
def Z0ai:IC:=(.seq (.sq [jm 7 6,jb 8 .lss 7 (ci 4)] (.cond 8 .skip (.exit 0))) (.seq (.block 1 Z08p) (.ops [jm 9 6,jb 10 .add 9 (ci 1),jm 6 10])))
def Z08o:IC:=(.loop Z0ai)
def d244:FnD:=⟨22,[.tmp 4],(.sq [jm 4 (.const (.int .u32 0))] (.sq [jm 5 (.const (.int .u32 0))] (.seq (.sq [jm 6 (ci 0)] (.block 0 Z08o)) (.sq [jm 21 5,jm 4 21] .ret))))⟩
theorem Z0lr:okF Tryz.prog 244 d244=true:=by kernel_rfl
def d245:FnD:=⟨17,[.tmp 4],(.sq [jm 4 (.const (.int .u32 0))] (.sq [jm 7 0,jm 8 1,jb 9 .shr 7 8,jm 5 9] (.sq [jm 10 0,jm 11 1,jb 12 .sub (ci 32) 11,jb 13 .shl 10 12,jm 6 13] (.sq [jm 14 5,jm 15 6,jb 16 .or 14 15,jm 4 16] .ret))))⟩
theorem Z0ls:okF Tryz.prog 245 d245=true:=by kernel_rfl
def Z0er:LJ:=[jm 14 4,oj 15 (.sla 64 1 1 none none none),jm 16 4,jb 17 .mul (ci 4) 16,jc 18 244 [15,17],ji 19 64 1 3 14,js' 1 19 18]
def Z08j:IC:=(.ops Z0er)
def Z0af:IC:=(.seq (.sq [jm 10 4,jb 11 .lss 10 (ci 16)] (.cond 11 .skip (.exit 0))) (.seq (.block 1 Z08j) (.ops [jm 12 4,jb 13 .add 12 (ci 1),jm 4 13])))
def Z08i:IC:=(.loop Z0af)
def Z02w:LJ:=[jm 32 6,jc 33 245 [32,(ci 17)],jm 34 6,jc 35 245 [34,(ci 19)],jb 36 .xor 33 35,jm 37 6,jb 38 .shr 37 (cu 10),jb 39 .xor 36 38,jm 8 39]
def Z02x:LJ:=[jm 40 7,jc 41 245 [40,(ci 7)],jm 42 7,jc 43 245 [42,(ci 18)],jb 44 .xor 41 43,jm 45 7,jb 46 .shr 45 (cu 3),jb 47 .xor 44 46,jm 9 47]
def Z02y:Sch:=(.P 0 (jm 48 5) (.P 1 (jm 49 8) (.P 2 (jm 50 5) (.P 3 (jb 51 .sub 50 (ci 7)) (.P 4 (ji 52 64 1 3 51) (.P 7 (jm 55 9) (.P 9 (jm 57 5) (.P 10 (jb 58 .sub 57 (ci 16)) (.P 11 (ji 59 64 1 3 58) (.Q 5 (jl 53 1 false 52) (.P 6 (jb 54 .add 49 53) (.P 8 (jb 56 .add 54 55) (.Q 12 (jl 60 1 false 59) (.P 13 (jb 61 .add 56 60) (.P 14 (ji 62 64 1 3 48) (.e 15 (jo' 1 62 61) .nil))))))))))))))))
def Z08l:IC:=(.sq [jm 24 5,jb 25 .sub 24 (ci 2),ji 26 64 1 3 25,jl 27 1 false 26,jm 6 27] (.sq [jm 28 5,jb 29 .sub 28 (ci 15),ji 30 64 1 3 29,jl 31 1 false 30,jm 7 31] (.sq Z02w (.sq Z02x (.draw Z02y [15])))))
def Z0ag:IC:=(.seq (.sq [jm 20 5,jb 21 .lss 20 (ci 64)] (.cond 21 .skip (.exit 2))) (.seq (.block 3 Z08l) (.ops [jm 22 5,jb 23 .add 22 (ci 1),jm 5 23])))
def Z08k:IC:=(.loop Z0ag)
def d240:FnD:=⟨64,[.cell 2 64 true],(.sq [jx 1 26 0,ja 2 250 [.ints .u32 64 (replicate 64 0)]] (.sq [ja 3 250 [.ints .u32 64 (replicate 64 0)]] (.seq (.sq [jm 4 (ci 0)] (.block 0 Z08i)) (.seq (.sq [jm 5 (ci 16)] (.block 2 Z08k)) (.sq [jl 63 64 true 3,js' 64 2 63] .ret)))))⟩
theorem Z0ln:okF Tryz.prog 240 d240=true:=by kernel_rfl
def Z0es:LJ:=[jd 1 [.ints .u32 64 (replicate 64 0)] [(0,1,(.const (.int .u32 1116352408))),(1,1,(.const (.int .u32 1899447441))),(2,1,(.const (.int .u32 3049323471))),(3,1,(.const (.int .u32 3921009573))),(4,1,(.const (.int .u32 961987163))),(5,1,(.const (.int .u32 1508970993))),(6,1,(.const (.int .u32 2453635748))),(7,1,(.const (.int .u32 2870763221))),(8,1,(.const (.int .u32 3624381080))),(9,1,(.const (.int .u32 310598401))),(10,1,(.const (.int .u32 607225278))),(11,1,(.const (.int .u32 1426881987))),(12,1,(.const (.int .u32 1925078388))),(13,1,(.const (.int .u32 2162078206))),(14,1,(.const (.int .u32 2614888103))),(15,1,(.const (.int .u32 3248222580))),(16,1,(.const (.int .u32 3835390401))),(17,1,(.const (.int .u32 4022224774))),(18,1,(.const (.int .u32 264347078))),(19,1,(.const (.int .u32 604807628))),(20,1,(.const (.int .u32 770255983))),(21,1,(.const (.int .u32 1249150122))),(22,1,(.const (.int .u32 1555081692))),(23,1,(.const (.int .u32 1996064986))),(24,1,(.const (.int .u32 2554220882))),(25,1,(.const (.int .u32 2821834349))),(26,1,(.const (.int .u32 2952996808))),(27,1,(.const (.int .u32 3210313671))),(28,1,(.const (.int .u32 3336571891))),(29,1,(.const (.int .u32 3584528711))),(30,1,(.const (.int .u32 113926993))),(31,1,(.const (.int .u32 338241895))),(32,1,(.const (.int .u32 666307205))),(33,1,(.const (.int .u32 773529912))),(34,1,(.const (.int .u32 1294757372))),(35,1,(.const (.int .u32 1396182291))),(36,1,(.const (.int .u32 1695183700))),(37,1,(.const (.int .u32 1986661051))),(38,1,(.const (.int .u32 2177026350))),(39,1,(.const (.int .u32 2456956037))),(40,1,(.const (.int .u32 2730485921))),(41,1,(.const (.int .u32 2820302411))),(42,1,(.const (.int .u32 3259730800))),(43,1,(.const (.int .u32 3345764771))),(44,1,(.const (.int .u32 3516065817))),(45,1,(.const (.int .u32 3600352804))),(46,1,(.const (.int .u32 4094571909))),(47,1,(.const (.int .u32 275423344))),(48,1,(.const (.int .u32 430227734))),(49,1,(.const (.int .u32 506948616))),(50,1,(.const (.int .u32 659060556))),(51,1,(.const (.int .u32 883997877))),(52,1,(.const (.int .u32 958139571))),(53,1,(.const (.int .u32 1322822218))),(54,1,(.const (.int .u32 1537002063))),(55,1,(.const (.int .u32 1747873779))),(56,1,(.const (.int .u32 1955562222))),(57,1,(.const (.int .u32 2024104815))),(58,1,(.const (.int .u32 2227730452))),(59,1,(.const (.int .u32 2361852424))),(60,1,(.const (.int .u32 2428436474))),(61,1,(.const (.int .u32 2756734187))),(62,1,(.const (.int .u32 3204031479))),(63,1,(.const (.int .u32 3329325298)))],js' 64 0 1]
def d241:FnD:=⟨2,[.cell 0 64 true],(.sq [ja 0 250 [.ints .u32 64 (replicate 64 0)]] (.sq Z0es .ret))⟩
theorem Z0lo:okF Tryz.prog 241 d241=true:=by kernel_rfl
def Z0et:LJ:=[jm 19 8,ji 20 8 1 3 (ci 5),jl 21 1 false 20,jb 22 .and 19 21,jm 23 8,jb 24 .sub (.const (.int .u32 4294967295)) 23,ji 25 8 1 3 (ci 6),jl 26 1 false 25,jb 27 .and 24 26,jb 28 .xor 22 27,jm 9 28]
def Z0eu:LJ:=[jm 29 7,ji 30 8 1 3 (ci 1),jl 31 1 false 30,jb 32 .and 29 31,jm 33 7,ji 34 8 1 3 (ci 2),jl 35 1 false 34,jb 36 .and 33 35,jb 37 .xor 32 36,ji 38 8 1 3 (ci 1),jl 39 1 false 38,ji 40 8 1 3 (ci 2),jl 41 1 false 40,jb 42 .and 39 41,jb 43 .xor 37 42,jm 10 43]
def Z0ev:Sch:=(.P 0 (ji 44 8 1 3 (ci 7)) (.P 2 (jm 46 8) (.P 3 (jc 47 245 [46,(ci 6)]) (.P 4 (jm 48 8) (.P 5 (jc 49 245 [48,(ci 11)]) (.P 6 (jb 50 .xor 47 49) (.P 7 (jm 51 8) (.P 8 (jc 52 245 [51,(ci 25)]) (.P 9 (jb 53 .xor 50 52) (.P 11 (jm 55 9) (.P 13 (jm 57 1) (.P 15 (jm 59 2) (.Q 1 (jl 45 1 false 44) (.P 10 (jb 54 .add 45 53) (.P 12 (jb 56 .add 54 55) (.P 14 (jb 58 .add 56 57) (.P 16 (jb 60 .add 58 59) (.P 17 (jm 11 60) .nil))))))))))))))))))
def Z0ew:LJ:=[jm 61 7,jc 62 245 [61,(ci 2)],jm 63 7,jc 64 245 [63,(ci 13)],jb 65 .xor 62 64,jm 66 7,jc 67 245 [66,(ci 22)],jb 68 .xor 65 67,jm 69 10,jb 70 .add 68 69,jm 12 70]
def Z08n:IC:=(.ops [jm 75 14,jm 76 14,jb 77 .sub 76 (ci 1),ji 78 8 1 3 77,jl 79 1 false 78,ji 80 8 1 13 75,js' 1 80 79])
def Z0ah:IC:=(.seq (.sq [jm 71 14,jb 72 .lss 71 (ci 8)] (.cond 72 .skip (.exit 0))) (.seq (.block 1 Z08n) (.ops [jm 73 14,jb 74 .add 73 (ci 1),jm 14 74])))
def Z08m:IC:=(.loop Z0ah)
def d242:FnD:=⟨91,[.cell 6 8 true],(.sq [jx 3 245 0,ja 6 245 [.ints .u32 8 (replicate 8 0)]] (.sq [ji 15 8 1 3 (ci 0),jl 16 1 false 15,jm 7 16] (.sq [ji 17 8 1 3 (ci 4),jl 18 1 false 17,jm 8 18] (.sq Z0et (.sq Z0eu (.seq (.draw Z0ev []) (.sq Z0ew (.sq [ja 13 245 [.ints .u32 8 (replicate 8 0)]] (.seq (.sq [jm 14 (ci 1)] (.block 0 Z08m)) (.sq [ji 81 8 1 13 (ci 4),jl 82 1 false 81,jm 83 11,jb 84 .add 82 83,ji 85 8 1 13 (ci 4),js' 1 85 84] (.sq [jm 86 11,jm 87 12,jb 88 .add 86 87,ji 89 8 1 13 (ci 0),js' 1 89 88] (.sq [jl 90 8 true 13,js' 8 6 90] .ret))))))))))))⟩
theorem Z0lp:okF Tryz.prog 242 d242=true:=by kernel_rfl
def Z0en:Sch:=(.P 1 (jm 19 8) (.P 2 (ji 20 64 1 6 19) (.P 4 (jm 22 8) (.P 5 (ji 23 64 1 5 22) (.Q 0 (jl 18 8 true 7) (.Q 3 (jl 21 1 false 20) (.Q 6 (jl 24 1 false 23) (.P 7 (jc 25 242 [18,21,24]) (.e 8 (jo' 8 7 25) .nil)))))))))
def Z08b:IC:=(.draw Z0en [8])
def Z0ab:IC:=(.seq (.sq [jm 14 8,jb 15 .lss 14 (ci 64)] (.cond 15 .skip (.exit 0))) (.seq (.block 1 Z08b) (.ops [jm 16 8,jb 17 .add 16 (ci 1),jm 8 17])))
def Z08a:IC:=(.loop Z0ab)
def Z02v:Sch:=(.P 0 (jm 30 9) (.P 1 (jm 31 9) (.P 2 (ji 32 8 1 7 31) (.P 4 (jm 34 9) (.P 5 (ji 35 8 1 2 34) (.Q 3 (jl 33 1 false 32) (.Q 6 (jl 36 1 false 35) (.P 7 (jb 37 .add 33 36) (.P 8 (ji 38 8 1 7 30) (.e 9 (jo' 1 38 37) .nil))))))))))
def Z08d:IC:=(.draw Z02v [9])
def Z0ac:IC:=(.seq (.sq [jm 26 9,jb 27 .lss 26 (ci 8)] (.cond 27 .skip (.exit 2))) (.seq (.block 3 Z08d) (.ops [jm 28 9,jb 29 .add 28 (ci 1),jm 9 29])))
def Z08c:IC:=(.loop Z0ac)
def d235:FnD:=⟨40,[.cell 4 8 true],(.sq [jx 2 245 0,jx 3 26 1,ja 4 245 [.ints .u32 8 (replicate 8 0)]] (.sq [jl 10 64 true 3,jc 11 240 [10],ja 5 250 [.ints .u32 64 (replicate 64 0)],js' 64 5 11] (.sq [jc 12 241 [],ja 6 250 [.ints .u32 64 (replicate 64 0)],js' 64 6 12] (.sq [jl 13 8 true 2,ja 7 245 [.ints .u32 8 (replicate 8 0)],js' 8 7 13] (.seq (.sq [jm 8 (ci 0)] (.block 0 Z08a)) (.seq (.sq [jm 9 (ci 0)] (.block 2 Z08c)) (.sq [jl 39 8 true 7,js' 8 4 39] .ret)))))))⟩
theorem Z0li:okF Tryz.prog 235 d235=true:=by kernel_rfl
def Z0eo:LJ:=[jm 9 4,jm 10 4,jb 11 .quo 10 (ci 4),ji 12 8 1 1 11,jl 13 1 false 12,jm 14 4,jb 15 .rem 14 (ci 4),jb 16 .mul (ci 8) 15,jb 17 .sub (ci 24) 16,jb 18 .shr 13 17,jv 19 .u8 18,ji 20 32 1 3 9,js' 1 20 19]
def Z08f:IC:=(.ops Z0eo)
def Z0ad:IC:=(.seq (.sq [jm 5 4,jb 6 .lss 5 (ci 32)] (.cond 6 .skip (.exit 0))) (.seq (.block 1 Z08f) (.ops [jm 7 4,jb 8 .add 7 (ci 1),jm 4 8])))
def Z08e:IC:=(.loop Z0ad)
def d236:FnD:=⟨22,[.cell 2 32 true],(.sq [jx 1 245 0,ja 2 22 [.ints .u8 32 (replicate 32 0)]] (.sq [ja 3 22 [.ints .u8 32 (replicate 32 0)]] (.seq (.sq [jm 4 (ci 0)] (.block 0 Z08e)) (.sq [jl 21 32 true 3,js' 32 2 21] .ret))))⟩
theorem Z0lj:okF Tryz.prog 236 d236=true:=by kernel_rfl
def Z083:IC:=(.ops [jm 28 7,jm 29 3,jm 30 5,jm 31 7,jb 32 .add 30 31,ji' 33 1 29 32,jl 34 1 false 33,ji 35 64 1 6 28,js' 1 35 34])
def Z0a7:IC:=(.seq (.sq [jm 24 7,jb 25 .lss 24 (ci 64)] (.cond 25 .skip (.exit 2))) (.seq (.block 3 Z083) (.ops [jm 26 7,jb 27 .add 26 (ci 1),jm 7 27])))
def Z082:IC:=(.loop Z0a7)
def Z081:IC:=(.sq [ja 6 26 [.ints .u8 64 (replicate 64 0)]] (.seq (.sq [jm 7 (ci 0)] (.block 2 Z082)) (.ops [jl 36 8 true 4,jl 37 64 true 6,jc 38 235 [36,37],js' 8 4 38])))
def Z0a6:IC:=(.seq (.sq [jm 18 5,jm 19 3,jn' 20 19,jb 21 .lss 18 20] (.cond 21 .skip (.exit 0))) (.seq (.block 1 Z081) (.ops [jm 22 5,jb 23 .add 22 (ci 64),jm 5 23])))
def Z080:IC:=(.loop Z0a6)
def d230:FnD:=⟨41,[.cell 2 32 true],(.sq [ja 2 22 [.ints .u8 32 (replicate 32 0)]] (.sq [jm 3 (.const (.slice none 0 0))] (.sq [jm 8 3,jm 9 0,oj 10 (.app 5 1 1 [.one (.int .u8 0)] 8 9),jm 3 10] (.sq [jm 11 3,jm 12 0,jn' 13 12,jv 14 .u64 13,jc 15 233 [14],oj 16 (.app 5 1 1 [.one (.int .u8 0)] 11 15),jm 3 16] (.sq [jc 17 234 [],ja 4 245 [.ints .u32 8 (replicate 8 0)],js' 8 4 17] (.seq (.sq [jm 5 (ci 0)] (.block 0 Z080)) (.sq [jl 39 8 true 4,jc 40 236 [39],js' 32 2 40] .ret)))))))⟩
theorem Z0ld:okF Tryz.prog 230 d230=true:=by kernel_rfl
def Z0e8:LJ:=[jm 12 4,jm 13 5,ji 14 32 1 3 13,jl 15 1 false 14,oj 16 (.bs 5 1 1 [.one (.int .u8 0)] [(0,1,15)]),oj 17 (.app 5 1 1 [.one (.int .u8 0)] 12 16),jm 4 17]
def Z07v:IC:=(.ops Z0e8)
def Z0a3:IC:=(.seq (.sq [jm 8 5,jb 9 .lss 8 (ci 32)] (.cond 9 .skip (.exit 0))) (.seq (.block 1 Z07v) (.ops [jm 10 5,jb 11 .add 10 (ci 1),jm 5 11])))
def Z07u:IC:=(.loop Z0a3)
def d227:FnD:=⟨19,[.tmp 2],(.sq [jm 2 (.const (.slice none 0 0))] (.sq [jm 6 0,jc 7 230 [6],ja 3 22 [.ints .u8 32 (replicate 32 0)],js' 32 3 7] (.sq [jm 4 (.const (.slice none 0 0))] (.seq (.sq [jm 5 (ci 0)] (.block 0 Z07u)) (.sq [jm 18 4,jm 2 18] .ret)))))⟩
theorem Z0la:okF Tryz.prog 227 d227=true:=by kernel_rfl
def d216:FnD:=⟨10,[.tmp 4],(.sq [jm 4 (.const (.slice none 0 0))] (.seq (.sq [jm 5 0] (.cond 5 (.sq [jm 6 1,jc 7 226 [6],jm 4 7] .ret) .skip)) (.sq [jm 8 1,jc 9 227 [8],jm 4 9] .ret)))⟩
theorem Z0kz:okF Tryz.prog 216 d216=true:=by kernel_rfl
def Z02s:LJ:=[jm 33 8,jm 34 11,jb 35 .xor 34 (c8 54),oj 36 (.bs 5 1 1 [.one (.int .u8 0)] [(0,1,35)]),oj 37 (.app 5 1 1 [.one (.int .u8 0)] 33 36),jm 8 37]
def Z02t:LJ:=[jm 38 9,jm 39 11,jb 40 .xor 39 (c8 92),oj 41 (.bs 5 1 1 [.one (.int .u8 0)] [(0,1,40)]),oj 42 (.app 5 1 1 [.one (.int .u8 0)] 38 41),jm 9 42]
def Z073:IC:=(.sq [jm 11 (c8 0)] (.seq (.sq [jm 25 10,jm 26 1,jn' 27 26,jb 28 .lss 25 27] (.cond 28 (.ops [jm 29 1,jm 30 10,ji' 31 1 29 30,jl 32 1 false 31,jm 11 32]) .skip)) (.sq Z02s (.ops Z02t))))
def Z09p:IC:=(.seq (.sq [jm 20 10,jm 21 7,jb 22 .lss 20 21] (.cond 22 .skip (.exit 0))) (.seq (.block 1 Z073) (.ops [jm 23 10,jb 24 .add 23 (ci 1),jm 10 24])))
def Z072:IC:=(.loop Z09p)
def d185:FnD:=⟨54,[.tmp 6],(.sq [jm 6 (.const (.slice none 0 0))] (.sq [jm 7 (ci 64)] (.seq (.sq [jm 12 0] (.cond 12 (.ops [jm 7 (ci 128)]) .skip)) (.seq (.sq [jm 13 1,jn' 14 13,jm 15 7,jb 16 .gtr 14 15] (.cond 16 (.ops [jm 17 0,jm 18 1,jc 19 216 [17,18],jm 1 19]) .skip)) (.sq [jm 8 (.const (.slice none 0 0)),jm 9 (.const (.slice none 0 0))] (.seq (.sq [jm 10 (ci 0)] (.block 0 Z072)) (.sq [jm 43 8,jm 44 2,oj 45 (.app 5 1 1 [.one (.int .u8 0)] 43 44),jm 8 45] (.sq [jm 46 9,jm 47 0,jm 48 8,jc 49 216 [47,48],oj 50 (.app 5 1 1 [.one (.int .u8 0)] 46 49),jm 9 50] (.sq [jm 51 0,jm 52 9,jc 53 216 [51,52],jm 6 53] .ret)))))))))⟩
theorem Z0ka:okF Tryz.prog 185 d185=true:=by kernel_rfl
def Z0d8:LJ:=[jm 9 3,jm 10 4,ji 11 32 1 1 10,jl 12 1 false 11,oj 13 (.bs 5 1 1 [.one (.int .u8 0)] [(0,1,12)]),oj 14 (.app 5 1 1 [.one (.int .u8 0)] 9 13),jm 3 14]
def Z075:IC:=(.ops Z0d8)
def Z09q:IC:=(.seq (.sq [jm 5 4,jb 6 .lss 5 (ci 32)] (.cond 6 .skip (.exit 0))) (.seq (.block 1 Z075) (.ops [jm 7 4,jb 8 .add 7 (ci 1),jm 4 8])))
def Z074:IC:=(.loop Z09q)
def d186:FnD:=⟨16,[.tmp 2],(.sq [jx 1 23 0,jm 2 (.const (.slice none 0 0))] (.sq [jm 3 (.const (.slice none 0 0))] (.seq (.sq [jm 4 (ci 0)] (.block 0 Z074)) (.sq [jm 15 3,jm 2 15] .ret))))⟩
theorem Z0kb:okF Tryz.prog 186 d186=true:=by kernel_rfl
def Z0bo:LJ:=[jm 12 2,jb 13 .lss 12 (ci 0),jm 14 13,.lg true 14 17 none [.op ⟨some 15,(some (14,false)),.mv 2⟩,.op ⟨some 16,(some (14,false)),.bin .gtr 15 (ci 8160)⟩] 16]
def Z02m:LJ:=[jm 30 11,jm 31 10,jv 32 .u8 31,oj 33 (.bs 5 1 1 [.one (.int .u8 0)] [(0,1,32)]),oj 34 (.app 5 1 1 [.one (.int .u8 0)] 30 33),jm 11 34]
def Z05z:IC:=(.sq [jm 11 (.const (.slice none 0 0))] (.sq [jm 24 11,jm 25 9,oj 26 (.app 5 1 1 [.one (.int .u8 0)] 24 25),jm 11 26] (.sq [jm 27 11,jm 28 1,oj 29 (.app 5 1 1 [.one (.int .u8 0)] 27 28),jm 11 29] (.sq Z02m (.sq [jl 35 32 true 3,jc 36 186 [35],jm 37 11,jc 38 185 [(.const (.bool false)),36,37],jm 9 38] (.ops [jm 39 8,jm 40 9,oj 41 (.app 5 1 1 [.one (.int .u8 0)] 39 40),jm 8 41]))))))
def Z095:IC:=(.seq (.sq [jm 18 8,jn' 19 18,jm 20 2,jb 21 .lss 19 20] (.cond 21 .skip (.exit 0))) (.seq (.block 1 Z05z) (.ops [jm 22 10,jb 23 .add 22 (ci 1),jm 10 23])))
def Z05y:IC:=(.loop Z095)
def d120:FnD:=⟨45,[.tmp 6,.tmp 7],(.sq [jx 3 23 0,jm 6 (.const (.slice none 0 0)),jm 7 (.const (.bool false))] (.seq (.sq Z0bo (.cond 17 (.sq [jm 6 (.const (.slice none 0 0)),jm 7 (.const (.bool false))] .ret) .skip)) (.sq [jm 8 (.const (.slice none 0 0)),jm 9 (.const (.slice none 0 0))] (.seq (.sq [jm 10 (ci 1)] (.block 0 Z05y)) (.sq [jm 42 8,jm 43 2,oj 44 (.sls 1 42 none (some 43) none),jm 6 44,jm 7 (.const (.bool true))] .ret)))))⟩
theorem Z0j8:okF Tryz.prog 120 d120=true:=by kernel_rfl
def Z0n6:LJ:=[jm 14 1,oj 15 (.lens 14),jb 16 .gtr 15 (ci 32),jm 17 16,.lg true 17 20 none [.op ⟨some 18,(some (17,false)),.mv 2⟩,.op ⟨some 19,(some (17,false)),.bin .lss 18 (ci 0)⟩] 19,jm 21 20,.lg true 21 24 none [.op ⟨some 22,(some (21,false)),.mv 2⟩,.op ⟨some 23,(some (21,false)),.bin .gtr 22 (ci 2147483647)⟩] 23]
def Z0n7:LJ:=[jm 32 9,jm 33 1,jm 34 10,oj 35 (.sidx 33 34),oj 36 (.bs 5 1 1 [.one (.int .u8 0)] [(0,1,35)]),oj 37 (.app 5 1 1 [.one (.int .u8 0)] 32 36),jm 9 37]
def Z0hm:IC:=(.ops Z0n7)
def Z0ih:IC:=(.seq (.sq [jm 26 10,jm 27 1,oj 28 (.lens 27),jb 29 .lss 26 28] (.cond 29 .skip (.exit 0))) (.seq (.block 1 Z0hm) (.ops [jm 30 10,jb 31 .add 30 (ci 1),jm 10 31])))
def Z0hl:IC:=(.loop Z0ih)
def Z0n8:LJ:=[jm 38 9,oj 39 (.bs 5 5 1 [.one (.int .u8 0),.one (.int .u8 0),.one (.int .u8 0),.one (.int .u8 0),.one (.int .u8 0)] [(0,1,(c8 0)),(1,1,(c8 0)),(2,1,(c8 0)),(3,1,(c8 0)),(4,1,(c8 0))]),oj 40 (.app 5 1 1 [.one (.int .u8 0)] 38 39),jm 9 40]
def Z0f2:LJ:=[jm 41 9,jm 42 2,jb 43 .quo 42 (ci 16777216),jb 44 .rem 43 (ci 256),jv 45 .u8 44,jm 46 2,jb 47 .quo 46 (ci 65536),jb 48 .rem 47 (ci 256),jv 49 .u8 48,jm 50 2,jb 51 .quo 50 (ci 256),jb 52 .rem 51 (ci 256),jv 53 .u8 52,jm 54 2,jb 55 .rem 54 (ci 256),jv 56 .u8 55,oj 57 (.bs 5 4 1 [.one (.int .u8 0),.one (.int .u8 0),.one (.int .u8 0),.one (.int .u8 0)] [(0,1,45),(1,1,49),(2,1,53),(3,1,56)]),oj 58 (.app 5 1 1 [.one (.int .u8 0)] 41 57),jm 9 58]
def Z0ho:IC:=(.ops [jm 69 13,jm 70 11,jm 71 13,ji' 72 1 70 71,jl 73 1 false 72,ji 74 32 1 8 69,js' 1 74 73])
def Z0ii:IC:=(.seq (.sq [jm 65 13,jb 66 .lss 65 (ci 32)] (.cond 66 .skip (.exit 2))) (.seq (.block 3 Z0ho) (.ops [jm 67 13,jb 68 .add 67 (ci 1),jm 13 68])))
def Z0hn:IC:=(.loop Z0ii)
def d64:FnD:=⟨76,[.cell 6 32 true,.tmp 7],(.sq [jx 3 23 0,ja 6 23 [.ints .u8 32 (replicate 32 0)],jm 7 (.const (.bool false))] (.sq [ja 8 23 [.ints .u8 32 (replicate 32 0)]] (.seq (.sq Z0n6 (.cond 24 (.sq [jl 25 32 true 8,js' 32 6 25,jm 7 (.const (.bool false))] .ret) .skip)) (.sq [jm 9 (.const (.slice none 0 0))] (.seq (.sq [jm 10 (ci 0)] (.block 0 Z0hl)) (.sq Z0n8 (.sq Z0f2 (.sq [jl 60 32 true 3,jm 61 9,jc 62 120 [60,61,(ci 32)],jm 59 62,je 63 59 0,je 64 59 1,jm 11 63,jm 12 64] (.seq (.sq [jm 13 (ci 0)] (.block 2 Z0hn)) (.sq [jl 75 32 true 8,js' 32 6 75,jm 7 (.const (.bool true))] .ret))))))))))⟩
theorem ok64:okF Tryz.prog 64 d64=true:=by kernel_rfl
def Z0mi:LJ:=[jm 9 6,jb 10 .neq 9 (ci 0),jm 11 10,.lg true 11 14 none [.op ⟨some 12,(some (11,false)),.mv 1⟩,.op ⟨some 13,(some (11,false)),.bin .lss 12 (ci 0)⟩] 13,jm 15 14,.lg true 15 23 none [.op ⟨some 16,(some (15,false)),.mv 1⟩,.op ⟨some 17,(some (15,false)),.fa 0 2⟩,.op ⟨some 18,(some (15,false)),.ld 1 false 17⟩,.op ⟨some 19,(some (15,false)),.fa 1 2⟩,.op ⟨some 20,(some (15,false)),.ld 1 false 19⟩,.op ⟨some 21,(some (15,false)),.bin .add 18 20⟩,.op ⟨some 22,(some (15,false)),.bin .gtr 16 21⟩] 22]
def Z0mj:LJ:=[jf 25 5 2,jl 26 32 true 25,jm 27 1,.op ⟨some 28,none,.call 64 [26,(.const (.string ⟨#[110,111,100,101]⟩)),27]⟩,je 29 28 0,je 30 28 1,js' 32 4 29,jm 5 30]
def d20:FnD:=⟨31,[.cell 4 32 true,.tmp 5],(.sq [jx 2 34 0,ja 4 23 [.ints .u8 32 (replicate 32 0)],jm 5 (.const (.bool false))] (.sq [jl 7 37 true 2,jc 8 18 [7],jm 6 8] (.seq (.sq Z0mi (.cond 23 (.sq [jd 24 [.ints .u8 32 (replicate 32 0)] [],js' 32 4 24,jm 5 (.const (.bool false))] .ret) .skip)) (.sq Z0mj .ret))))⟩
theorem ok20:okF Tryz.prog 20 d20=true:=by kernel_rfl
def Z0ni:LJ:=[jl 1 8 true (.global 2),jd 2 [.ints .u64 8 (replicate 8 0),.ints .u8 128 (replicate 128 0),.one (.int .i64 0),.one (.int .u64 0)] [(0,8,1)],jx 3 194 2,jm 0 3]
def d96:FnD:=⟨4,[.tmp 0],(.sq [jm 0 (.const (.pointer none))] (.sq Z0ni .ret))⟩
theorem ok96:okF Tryz.prog 96 d96=true:=by kernel_rfl
def Z0do:LJ:=[jm 8 1,jb 9 .lss 8 (ci 0),jm 10 9,.lg true 10 17 none [.op ⟨some 11,(some (10,false)),.mv 1⟩,.op ⟨some 12,(some (10,false)),.mv 0⟩,.op ⟨some 13,(some (10,false)),.len 12⟩,.op ⟨some 14,(some (10,false)),.mv 5⟩,.op ⟨some 15,(some (10,false)),.bin .sub 13 14⟩,.op ⟨some 16,(some (10,false)),.bin .gtr 11 15⟩] 16]
def d203:FnD:=⟨24,[.tmp 4],(.sq [jm 4 (.const (.slice none 0 0))] (.sq [jc 6 183 [],jb 7 .quo 6 (ci 8),jm 5 7] (.seq (.sq Z0do (.cond 17 (.sq [jm 4 (.const (.slice none 0 0))] .ret) .skip)) (.sq [jm 18 0,jm 19 1,jm 20 1,jm 21 5,jb 22 .add 20 21,oj 23 (.sls 1 18 (some 19) (some 22) none),jm 4 23] .ret))))⟩
theorem Z0kp:okF Tryz.prog 203 d203=true:=by kernel_rfl
def Z07l:IC:=(.sq [ji' 17 1 13 15,jl 18 1 false 17,jm 9 18] (.ops [jm 19 6,jb 20 .shl 19 (cu 8),jm 21 9,jv 22 .u64 21,jb 23 .or 20 22,jm 6 23]))
def Z09y:IC:=(.sq [jb 16 .lss 15 14] (.seq (.cond 16 .skip (.exit 0)) (.seq (.block 1 Z07l) (.ops [jb 24 .add 15 (ci 1),jm 15 24]))))
def Z07k:IC:=(.loop Z09y)
def d218:FnD:=⟨28,[.tmp 4,.tmp 5],(.sq [jm 4 (cu 0),jm 5 (.const (.bool false))] (.sq [jm 6 (cu 0)] (.sq [jm 10 0,jm 11 1,jc 12 203 [10,11],jm 7 12] (.seq (.sq [jm 13 7,jn' 14 13,jm 15 (ci 0)] (.block 0 Z07k)) (.sq [jm 25 6,jm 26 7,oj 27 (.isn true 26),jm 4 25,jm 5 27] .ret)))))⟩
theorem Z0l1:okF Tryz.prog 218 d218=true:=by kernel_rfl
def Z0dx:LJ:=[jm 14 0,jm 15 6,jb 16 .shr 14 15,jm 17 0,jm 18 5,jv 19 .u64 18,jm 20 6,jb 21 .sub 19 20,jb 22 .shl 17 21,jb 23 .or 16 22,jm 4 23]
def d220:FnD:=⟨24,[.tmp 4],(.sq [jm 4 (cu 0)] (.sq [jc 7 183 [],jm 5 7] (.sq [jm 8 1,jv 9 .u64 8,jm 10 5,jb 11 .sub 10 (ci 1),jv 12 .u64 11,jb 13 .and 9 12,jm 6 13] (.sq Z0dx .ret))))⟩
theorem Z0l3:okF Tryz.prog 220 d220=true:=by kernel_rfl
def Z0dv:Sch:=(.P 0 (jm 9 0) (.P 1 (jm 10 1) (.P 2 (jc 11 220 [9,10]) (.P 3 (jm 12 0) (.P 4 (jm 13 2) (.P 5 (jc 14 220 [12,13]) (.P 6 (jb 15 .xor 11 14) (.P 7 (jm 16 0) (.P 8 (jm 17 3) (.P 9 (jb 18 .shr 16 17) (.P 10 (jb 19 .xor 15 18) (.P 11 (jm 8 19) .nil))))))))))))
def d219:FnD:=⟨20,[.tmp 8],(.sq [jm 8 (cu 0)] (.seq (.draw Z0dv []) .ret))⟩
theorem Z0l2:okF Tryz.prog 219 d219=true:=by kernel_rfl
def Z0dl:LJ:=[jm 11 4,oj 12 (.sla 128 1 1 none none none),jm 13 4,jb 14 .mul (ci 8) 13,jc 15 218 [12,14],jm 10 15,je 16 10 0,je 17 10 1,ji 18 80 1 3 11,js' 1 18 16]
def Z0dm:Sch:=(.P 0 (jm 19 4) (.P 1 (jm 20 4) (.P 2 (jb 21 .sub 20 (ci 2)) (.P 3 (ji 22 80 1 3 21) (.P 6 (jm 25 4) (.P 7 (jb 26 .sub 25 (ci 7)) (.P 8 (ji 27 80 1 3 26) (.P 11 (jm 30 4) (.P 12 (jb 31 .sub 30 (ci 15)) (.P 13 (ji 32 80 1 3 31) (.P 17 (jm 36 4) (.P 18 (jb 37 .sub 36 (ci 16)) (.P 19 (ji 38 80 1 3 37) (.Q 4 (jl 23 1 false 22) (.P 5 (jc 24 219 [23,(ci 19),(ci 61),(ci 6)]) (.Q 9 (jl 28 1 false 27) (.P 10 (jb 29 .add 24 28) (.Q 14 (jl 33 1 false 32) (.P 15 (jc 34 219 [33,(ci 1),(ci 8),(ci 7)]) (.P 16 (jb 35 .add 29 34) (.Q 20 (jl 39 1 false 38) (.P 21 (jb 40 .add 35 39) (.P 22 (ji 41 80 1 3 19) (.e 23 (jo' 1 41 40) .nil))))))))))))))))))))))))
def Z07d:IC:=(.sq [jm 7 5,jm 4 7] (.seq (.sq [jm 8 4,jb 9 .lss 8 (ci 16)] (.cond 9 (.sq Z0dl (.exit 1)) .skip)) (.draw Z0dm [23])))
def Z09u:IC:=(.sq [jb 6 .lss 5 (ci 80)] (.seq (.cond 6 .skip (.exit 0)) (.seq (.block 1 Z07d) (.ops [jb 42 .add 5 (ci 1),jm 5 42]))))
def Z07c:IC:=(.loop Z09u)
def d201:FnD:=⟨44,[.cell 2 80 true],(.sq [jx 1 192 0,ja 2 211 [.ints .u64 80 (replicate 80 0)]] (.sq [ja 3 211 [.ints .u64 80 (replicate 80 0)]] (.seq (.sq [jm 5 (ci 0)] (.block 0 Z07c)) (.sq [jl 43 80 true 3,js' 80 2 43] .ret))))⟩
theorem Z0kn:okF Tryz.prog 201 d201=true:=by kernel_rfl
def Z0dn:LJ:=[jm 9 0,jm 10 1,jc 11 220 [9,10],jm 12 0,jm 13 2,jc 14 220 [12,13],jb 15 .xor 11 14,jm 16 0,jm 17 3,jc 18 220 [16,17],jb 19 .xor 15 18,jm 8 19]
def d202:FnD:=⟨20,[.tmp 8],(.sq [jm 8 (cu 0)] (.sq Z0dn .ret))⟩
theorem Z0ko:okF Tryz.prog 202 d202=true:=by kernel_rfl
def Z0ck:Sch:=(.P 0 (ji 22 8 1 2 (ci 0)) (.P 2 (ji 24 8 1 2 (ci 1)) (.P 4 (ji 26 8 1 2 (ci 2)) (.P 6 (ji 28 8 1 2 (ci 3)) (.Q 1 (jl 23 1 false 22) (.P 8 (jm 6 23) (.Q 3 (jl 25 1 false 24) (.P 9 (jm 7 25) (.Q 5 (jl 27 1 false 26) (.P 10 (jm 8 27) (.Q 7 (jl 29 1 false 28) (.P 11 (jm 9 29) .nil))))))))))))
def Z0cl:Sch:=(.P 0 (ji 30 8 1 2 (ci 4)) (.P 2 (ji 32 8 1 2 (ci 5)) (.P 4 (ji 34 8 1 2 (ci 6)) (.P 6 (ji 36 8 1 2 (ci 7)) (.Q 1 (jl 31 1 false 30) (.P 8 (jm 10 31) (.Q 3 (jl 33 1 false 32) (.P 9 (jm 11 33) (.Q 5 (jl 35 1 false 34) (.P 10 (jm 12 35) (.Q 7 (jl 37 1 false 36) (.P 11 (jm 13 37) .nil))))))))))))
def Z0cm:Sch:=(.P 0 (jm 43 13) (.P 1 (jm 44 10) (.P 2 (jc 45 202 [44,(ci 14),(ci 18),(ci 41)]) (.P 3 (jb 46 .add 43 45) (.P 4 (jm 47 10) (.P 5 (jm 48 11) (.P 6 (jb 49 .and 47 48) (.P 7 (jm 50 10) (.P 8 (oj 51 (.un .xor 50)) (.P 9 (jm 52 12) (.P 10 (jb 53 .and 51 52) (.P 11 (jb 54 .xor 49 53) (.P 12 (jb 55 .add 46 54) (.P 13 (jm 56 15) (.P 14 (jb 57 .add 55 56) (.P 15 (jm 58 14) (.P 16 (ji 59 80 1 5 58) (.Q 17 (jl 60 1 false 59) (.P 18 (jb 61 .add 57 60) (.P 19 (jm 16 61) .nil))))))))))))))))))))
def Z0cn:LJ:=[jm 62 6,jc 63 202 [62,(ci 28),(ci 34),(ci 39)],jm 64 6,jm 65 7,jb 66 .and 64 65,jm 67 6,jm 68 8,jb 69 .and 67 68,jb 70 .xor 66 69,jm 71 7,jm 72 8,jb 73 .and 71 72,jb 74 .xor 70 73,jb 75 .add 63 74,jm 17 75]
def Z0co:LJ:=[jm 76 12,jm 77 11,jm 78 10,jm 79 9,jm 80 16,jb 81 .add 79 80,jm 82 8,jm 83 7,jm 84 6,jm 85 16,jm 86 17,jb 87 .add 85 86,jm 13 76,jm 12 77,jm 11 78,jm 10 81,jm 9 82,jm 8 83,jm 7 84,jm 6 87]
def Z06l:IC:=(.sq [jm 41 39,oj 42 (.idx 80 1 false 38 39),jm 14 41,jm 15 42] (.seq (.draw Z0cm []) (.sq Z0cn (.ops Z0co))))
def Z09g:IC:=(.sq [jb 40 .lss 39 (ci 80)] (.seq (.cond 40 .skip (.exit 0)) (.seq (.block 1 Z06l) (.ops [jb 88 .add 39 (ci 1),jm 39 88]))))
def Z06k:IC:=(.loop Z09g)
def Z02r:LJ:=[jm 89 6,jm 90 7,jm 91 8,jm 92 9,jm 93 10,jm 94 11,jm 95 12,jm 96 13,jd 97 [.ints .u64 8 (replicate 8 0)] [(0,1,89),(1,1,90),(2,1,91),(3,1,92),(4,1,93),(5,1,94),(6,1,95),(7,1,96)],jm 98 (ci 0)]
def Z06n:IC:=(.sq [jm 100 98,oj 101 (.idx 8 1 false 97 98),jm 18 100,jm 19 101] (.ops [jm 102 18,ji 103 8 1 2 102,jl 104 1 false 103,jm 105 19,jb 106 .add 104 105,ji 107 8 1 2 102,js' 1 107 106]))
def Z09h:IC:=(.sq [jb 99 .lss 98 (ci 8)] (.seq (.cond 99 .skip (.exit 2)) (.seq (.block 3 Z06n) (.ops [jb 108 .add 98 (ci 1),jm 98 108]))))
def Z06m:IC:=(.loop Z09h)
def d159:FnD:=⟨110,[.cell 4 8 true],(.sq [jx 2 144 0,jx 3 192 1,ja 4 144 [.ints .u64 8 (replicate 8 0)]] (.sq [jl 20 128 true 3,jc 21 201 [20],ja 5 211 [.ints .u64 80 (replicate 80 0)],js' 80 5 21] (.seq (.draw Z0ck []) (.seq (.draw Z0cl []) (.seq (.sq [jl 38 80 true (.global 4),jm 39 (ci 0)] (.block 0 Z06k)) (.seq (.sq Z02r (.block 2 Z06m)) (.sq [jl 109 8 true 2,js' 8 4 109] .ret)))))))⟩
theorem Z0jw:okF Tryz.prog 159 d159=true:=by kernel_rfl
def Z0nj:LJ:=[jm 5 0,jz 6 5,jf 7 137 6,jl 8 1 false 7,jm 9 1,jn' 10 9,jv 11 .u64 10,jb 12 .add 8 11,jz 13 5,jf 14 137 13,js' 1 14 12]
def Z0nk:Sch:=(.P 0 (jm 18 0) (.P 1 (jz 19 18) (.P 2 (jf 20 8 19) (.P 3 (jm 21 0) (.P 4 (jz 22 21) (.P 5 (jf 23 136 22) (.P 8 (jm 26 1) (.Q 6 (jl 24 1 false 23) (.P 7 (oj 25 (.sla 128 1 20 (some 24) none none)) (.e 9 (oi 27 (.cpy 1 25 26)) (.P 10 (jm 4 27) .nil)))))))))))
def Z0nl:Sch:=(.P 0 (jm 44 0) (.P 1 (jm 45 0) (.P 2 (jz 46 45) (.P 3 (jf 47 0 46) (.P 5 (jm 49 0) (.P 6 (jz 50 49) (.P 7 (jf 51 8 50) (.Q 4 (jl 48 8 true 47) (.Q 8 (jl 52 128 true 51) (.P 9 (jc 53 159 [48,52]) (.P 10 (jz 54 44) (.P 11 (jf 55 0 54) (.e 12 (jo' 8 55 53) .nil)))))))))))))
def Z0i4:IC:=(.seq (.draw Z0nk [9]) (.sq [jm 28 1,jm 29 4,oj 30 (.sls 1 28 (some 29) none none),jm 1 30] (.sq [jm 31 0,jz 32 31,jf 33 136 32,jl 34 1 false 33,jm 35 4,jb 36 .add 34 35,jz 37 31,jf 38 136 37,js' 1 38 36] (.sq [jm 39 0,jz 40 39,jf 41 136 40,jl 42 1 false 41,jb 43 .eql 42 (ci 128)] (.cond 43 (.seq (.draw Z0nl [12]) (.ops [jm 56 0,jz 57 56,jf 58 136 57,js' 1 58 (ci 0)])) .skip)))))
def Z0iq:IC:=(.seq (.sq [jm 15 1,jn' 16 15,jb 17 .gtr 16 (ci 0)] (.cond 17 .skip (.exit 0))) (.block 1 Z0i4))
def Z0i3:IC:=(.loop Z0iq)
def d97:FnD:=⟨59,[],(.sq Z0nj (.block 0 Z0i3))⟩
theorem ok97:okF Tryz.prog 97 d97=true:=by kernel_rfl
def Z0cp:LJ:=[jm 4 0,jz 5 4,jl 6 138 true 5,ja 3 194 [.ints .u64 8 (replicate 8 0),.ints .u8 128 (replicate 128 0),.one (.int .i64 0),.one (.int .u64 0)],js' 138 3 6]
def d163:FnD:=⟨7,[.tmp 2],(.sq [jm 2 (.const (.pointer none))] (.sq Z0cp (.sq [jm 2 3] .ret)))⟩
theorem Z0jx:okF Tryz.prog 163 d163=true:=by kernel_rfl
def Z0cq:LJ:=[jm 5 0,jb 6 .add 5 (cu 17),jb 7 .rem 6 (cu 128),jv 8 .i64 7,jb 9 .sub (ci 128) 8,jb 10 .rem 9 (ci 128),jm 3 10]
def Z0cr:LJ:=[jm 14 4,oj 15 (.bs 5 1 1 [.one (.int .u8 0)] [(0,1,(c8 128))]),oj 16 (.app 5 1 1 [.one (.int .u8 0)] 14 15),jm 4 16]
def d164:FnD:=⟨30,[.tmp 2],(.sq [jm 2 (.const (.slice none 0 0))] (.sq Z0cq (.sq [jm 11 3,jb 12 .add (ci 17) 11,oj 13 (.mks 5 1 [.one (.int .u8 0)] (ci 0) 12),jm 4 13] (.sq Z0cr (.sq [jm 17 4,jm 18 3,oj 19 (.apz 5 1 1 [.one (.int .u8 0)] 17 18),jm 4 19] (.sq [jm 20 4,jm 21 0,jb 22 .shr 21 (cu 61),jc 23 118 [22],oj 24 (.app 5 1 1 [.one (.int .u8 0)] 20 23),jm 4 24] (.sq [jm 25 4,jm 26 0,jb 27 .shl 26 (cu 3),jc 28 118 [27],oj 29 (.app 5 1 1 [.one (.int .u8 0)] 25 28),jm 2 29] .ret)))))))⟩
theorem Z0jy:okF Tryz.prog 164 d164=true:=by kernel_rfl
def Z0nm:Sch:=(.P 0 (jm 24 5) (.P 1 (jb 25 .mul (ci 8) 24) (.P 2 (oj 26 (.sla 64 1 4 (some 25) none none)) (.P 3 (jm 27 6) (.e 4 (oi 28 (.call 118 [27])) (.e 5 (oi 29 (.cpy 1 26 28)) .nil))))))
def Z0i6:IC:=(.sq [jm 22 20,oj 23 (.idx 8 1 false 19 20),jm 5 22,jm 6 23] (.draw Z0nm [5]))
def Z0ir:IC:=(.sq [jb 21 .lss 20 (ci 8)] (.seq (.cond 21 .skip (.exit 0)) (.seq (.block 1 Z0i6) (.ops [jb 30 .add 20 (ci 1),jm 20 30]))))
def Z0i5:IC:=(.loop Z0ir)
def d99:FnD:=⟨32,[.cell 2 64 true],(.sq [ja 2 94 [.ints .u8 64 (replicate 64 0)]] (.sq [jm 7 0,jc 8 163 [7],jm 3 8] (.sq [jm 9 3,jm 10 0,jz 11 10,jf 12 137 11,jl 13 1 false 12,jc 14 164 [13],jc 15 97 [9,14]] (.sq [ja 4 94 [.ints .u8 64 (replicate 64 0)]] (.seq (.sq [jm 16 3,jz 17 16,jf 18 0 17,jl 19 8 true 18,jm 20 (ci 0)] (.block 0 Z0i5)) (.sq [jl 31 64 true 4,js' 64 2 31] .ret))))))⟩
theorem ok99:okF Tryz.prog 99 d99=true:=by kernel_rfl
def d88:FnD:=⟨10,[.cell 2 64 true],(.sq [ja 2 94 [.ints .u8 64 (replicate 64 0)]] (.sq [jc 4 96 [],jm 3 4] (.sq [jm 5 3,jm 6 0,jc 7 97 [5,6]] (.sq [jm 8 3,jc 9 99 [8],js' 64 2 9] .ret))))⟩
theorem ok88:okF Tryz.prog 88 d88=true:=by kernel_rfl
def d89:FnD:=⟨13,[.cell 2 32 true],(.sq [jx 1 22 0,ja 2 74 [.ints .u8 32 (replicate 32 0)]] (.sq [ji 3 32 1 1 (ci 0),jl 4 1 false 3,jb 5 .andNot 4 (c8 7),ji 6 32 1 1 (ci 0),js' 1 6 5] (.sq [ji 7 32 1 1 (ci 31),jl 8 1 false 7,jb 9 .and 8 (c8 127),jb 10 .or 9 (c8 64),ji 11 32 1 1 (ci 31),js' 1 11 10] (.sq [jl 12 32 true 1,js' 32 2 12] .ret))))⟩
theorem ok89:okF Tryz.prog 89 d89=true:=by kernel_rfl
def Z0mp:Sch:=(.P 0 (oj 7 (.sla 64 1 4 none (some (ci 32)) none)) (.P 1 (oj 8 (.s2a 32 7)) (.P 4 (oj 11 (.sla 64 1 4 (some (ci 32)) none none)) (.Q 2 (jl 9 32 true 8) (.P 3 (jc 10 89 [9]) (.e 5 (jo' 32 2 10) (.P 6 (jm 3 11) .nil)))))))
def d49:FnD:=⟨12,[.cell 2 32 true,.tmp 3],(.sq [jx 1 23 0,ja 2 74 [.ints .u8 32 (replicate 32 0)],jm 3 (.const (.slice none 0 0))] (.sq [oj 5 (.sla 32 1 1 none none none),jc 6 88 [5],ja 4 94 [.ints .u8 64 (replicate 64 0)],js' 64 4 6] (.seq (.draw Z0mp [5]) .ret)))⟩
theorem ok49:okF Tryz.prog 49 d49=true:=by kernel_rfl
def Z0ch:LJ:=[ji 3 5 1 1 (ci 0),jl 4 1 false 3,jb 5 .and 4 (cu 2251799813685247),ji 6 5 1 1 (ci 4),jl 7 1 false 6,jb 8 .shr 7 (cu 51),jb 9 .mul 8 (cu 19),jb 10 .add 5 9,ji 11 5 1 1 (ci 1),jl 12 1 false 11,jb 13 .and 12 (cu 2251799813685247),ji 14 5 1 1 (ci 0),jl 15 1 false 14,jb 16 .shr 15 (cu 51),jb 17 .add 13 16,ji 18 5 1 1 (ci 2),jl 19 1 false 18,jb 20 .and 19 (cu 2251799813685247),ji 21 5 1 1 (ci 1),jl 22 1 false 21,jb 23 .shr 22 (cu 51),jb 24 .add 20 23,ji 25 5 1 1 (ci 3),jl 26 1 false 25,jb 27 .and 26 (cu 2251799813685247),ji 28 5 1 1 (ci 2),jl 29 1 false 28,jb 30 .shr 29 (cu 51),jb 31 .add 27 30,ji 32 5 1 1 (ci 4),jl 33 1 false 32,jb 34 .and 33 (cu 2251799813685247),ji 35 5 1 1 (ci 3),jl 36 1 false 35,jb 37 .shr 36 (cu 51),jb 38 .add 34 37,jd 39 [Z5] [(0,1,10),(1,1,17),(2,1,24),(3,1,31),(4,1,38)],js' 5 2 39]
def d156:FnD:=⟨40,[.cell 2 5 true],(.sq [jx 1 80 0,ja 2 80 [Z5]] (.sq Z0ch .ret))⟩
theorem Z0ju:okF Tryz.prog 156 d156=true:=by kernel_rfl
def Z06h:IC:=(.sq [ji' 18 1 14 16,jl 19 1 false 18,jm 5 19] (.ops [jm 20 5,jm 21 3,jb 22 .add 20 21,jb 23 .shr 22 (cu 51),jm 3 23]))
def Z09e:IC:=(.sq [jb 17 .lss 16 15] (.seq (.cond 17 .skip (.exit 0)) (.seq (.block 1 Z06h) (.ops [jb 24 .add 16 (ci 1),jm 16 24]))))
def Z06g:IC:=(.loop Z09e)
def Z0cg:LJ:=[ji 25 5 1 1 (ci 0),jl 26 1 false 25,jm 27 3,jb 28 .mul (cu 19) 27,jb 29 .add 26 28,ji 30 5 1 1 (ci 0),js' 1 30 29]
def Z02q:Sch:=(.P 0 (jm 34 6) (.P 1 (jb 35 .add 34 (ci 1)) (.P 2 (ji 36 5 1 1 35) (.P 4 (jm 38 6) (.P 5 (ji 39 5 1 1 38) (.Q 3 (jl 37 1 false 36) (.Q 6 (jl 40 1 false 39) (.P 7 (jb 41 .shr 40 (cu 51)) (.P 8 (jb 42 .add 37 41) (.P 9 (ji 43 5 1 1 35) (.e 10 (jo' 1 43 42) .nil)))))))))))
def Z06j:IC:=(.sq [jm 33 31,jm 6 33] (.seq (.draw Z02q [10]) (.ops [jm 44 6,ji 45 5 1 1 44,jl 46 1 false 45,jb 47 .and 46 (cu 2251799813685247),ji 48 5 1 1 44,js' 1 48 47])))
def Z09f:IC:=(.sq [jb 32 .lss 31 (ci 4)] (.seq (.cond 32 .skip (.exit 2)) (.seq (.block 3 Z06j) (.ops [jb 49 .add 31 (ci 1),jm 31 49]))))
def Z06i:IC:=(.loop Z09f)
def d155:FnD:=⟨55,[.cell 2 5 true],(.sq [jx 1 80 0,ja 2 80 [Z5]] (.sq [jl 7 5 true 1,jc 8 156 [7],jc 9 156 [8],js' 5 1 9] (.sq [ji 10 5 1 1 (ci 0),jl 11 1 false 10,jb 12 .add 11 (cu 19),jb 13 .shr 12 (cu 51),jm 3 13] (.seq (.sq [oj 14 (.sla 5 1 1 (some (ci 1)) none none),jn' 15 14,jm 16 (ci 0)] (.block 0 Z06g)) (.sq Z0cg (.seq (.sq [jm 31 (ci 0)] (.block 2 Z06i)) (.sq [ji 50 5 1 1 (ci 4),jl 51 1 false 50,jb 52 .and 51 (cu 2251799813685247),ji 53 5 1 1 (ci 4),js' 1 53 52] (.sq [jl 54 5 true 1,js' 5 2 54] .ret))))))))⟩
theorem Z0jt:okF Tryz.prog 155 d155=true:=by kernel_rfl
def Z02u:LJ:=[jm 40 7,jm 41 9,jb 42 .mul 40 41,jm 43 13,jb 44 .add 42 43,jm 45 12,jb 46 .shr 45 (cu 32),jb 47 .add 44 46,jm 4 47]
def d200:FnD:=⟨51,[.tmp 4,.tmp 5],(.sq [jm 4 (cu 0),jm 5 (cu 0)] (.sq [jm 14 0,jb 15 .and 14 (cu 4294967295),jm 6 15] (.sq [jm 16 0,jb 17 .shr 16 (cu 32),jm 7 17] (.sq [jm 18 1,jb 19 .and 18 (cu 4294967295),jm 8 19] (.sq [jm 20 1,jb 21 .shr 20 (cu 32),jm 9 21] (.sq [jm 22 6,jm 23 8,jb 24 .mul 22 23,jm 10 24] (.sq [jm 25 7,jm 26 8,jb 27 .mul 25 26,jm 28 10,jb 29 .shr 28 (cu 32),jb 30 .add 27 29,jm 11 30] (.sq [jm 31 11,jb 32 .and 31 (cu 4294967295),jm 12 32] (.sq [jm 33 11,jb 34 .shr 33 (cu 32),jm 13 34] (.sq [jm 35 12,jm 36 6,jm 37 9,jb 38 .mul 36 37,jb 39 .add 35 38,jm 12 39] (.sq Z02u (.sq [jm 48 0,jm 49 1,jb 50 .mul 48 49,jm 5 50] .ret))))))))))))⟩
theorem Z0km:okF Tryz.prog 200 d200=true:=by kernel_rfl
def Z0ci:LJ:=[jm 16 0,jm 17 0,jz 18 17,jf 19 1 18,jl 20 1 false 19,jm 21 7,oj 22 (.xcall 158 [20,21,(cu 0)]),jm 15 22,je 23 15 0,je 24 15 1,jz 25 16,jf 26 1 25,js' 1 26 23,jm 8 24]
def Z0cj:LJ:=[jm 28 0,jm 29 0,jz 30 29,jf 31 0 30,jl 32 1 false 31,jm 33 6,jm 34 8,oj 35 (.xcall 158 [32,33,34]),jm 27 35,je 36 27 0,je 37 27 1,jz 38 28,jf 39 0 38,js' 1 39 36]
def d157:FnD:=⟨40,[],(.sq [jm 10 1,jm 11 2,jc 12 200 [10,11],jm 9 12,je 13 9 0,je 14 9 1,jm 6 13,jm 7 14] (.sq [jm 8 (cu 0)] (.sq Z0ci (.ops Z0cj))))⟩
theorem Z0jv:okF Tryz.prog 157 d157=true:=by kernel_rfl
def Z0ne:Sch:=(.Q 0 (jl 19 5 true 2) (.P 1 (jc 20 156 [19]) (.Q 2 (jl 21 5 true 3) (.P 3 (jc 22 156 [21]) (.e 4 (jo' 5 2 20) (.e 5 (jo' 5 3 22) .nil))))))
def Z0f3:LJ:=[jm 44 6,jm 45 8,jb 46 .add 44 45,jb 47 .sub 46 (ci 5),ji 48 5 2 5 47,jm 49 7,jm 50 9,jb 51 .mul (cu 19) 50,jc 52 157 [48,49,51]]
def Z0hu:IC:=(.sq [jm 31 29,oj 32 (.idx 5 1 false 28 29),jm 8 31,jm 9 32] (.sq [jm 33 6,jm 34 8,jb 35 .add 33 34,jb 36 .lss 35 (ci 5)] (.cond 36 (.ops [jm 37 6,jm 38 8,jb 39 .add 37 38,ji 40 5 2 5 39,jm 41 7,jm 42 9,jc 43 157 [40,41,42]]) (.ops Z0f3))))
def Z0il:IC:=(.sq [jb 30 .lss 29 (ci 5)] (.seq (.cond 30 .skip (.exit 2)) (.seq (.block 3 Z0hu) (.ops [jb 53 .add 29 (ci 1),jm 29 53]))))
def Z0ht:IC:=(.loop Z0il)
def Z0hs:IC:=(.sq [jm 26 24,oj 27 (.idx 5 1 false 23 24),jm 6 26,jm 7 27] (.sq [jl 28 5 true 3,jm 29 (ci 0)] (.block 2 Z0ht)))
def Z0ik:IC:=(.sq [jb 25 .lss 24 (ci 5)] (.seq (.cond 25 .skip (.exit 0)) (.seq (.block 1 Z0hs) (.ops [jb 54 .add 24 (ci 1),jm 24 54]))))
def Z0hr:IC:=(.loop Z0ik)
def Z0f4:LJ:=[jf 61 1 13,jl 62 1 false 61,jm 63 11,oj 64 (.xcall 158 [62,63,(cu 0)]),jm 60 64,je 65 60 0,je 66 60 1,jm 14 65,jm 15 66]
def Z0f5:LJ:=[jf 71 0 13,jl 72 1 false 71,jm 73 15,jb 74 .add 72 73,jb 75 .shl 74 (cu 13),jm 76 14,jb 77 .shr 76 (cu 51),jb 78 .or 75 77,jm 11 78]
def Z0hw:IC:=(.sq [jm 58 56,oj 59 (.idx 5 2 true 55 56),ja 13 187 [.ints .u64 2 (replicate 2 0)],jm 12 58,js' 2 13 59] (.sq Z0f4 (.sq [jm 67 12,jm 68 14,jb 69 .and 68 (cu 2251799813685247),ji 70 5 1 10 67,js' 1 70 69] (.ops Z0f5))))
def Z0im:IC:=(.sq [jb 57 .lss 56 (ci 5)] (.seq (.cond 57 .skip (.exit 4)) (.seq (.block 5 Z0hw) (.ops [jb 79 .add 56 (ci 1),jm 56 79]))))
def Z0hv:IC:=(.loop Z0im)
def Z0f6:LJ:=[jf 83 1 16,jl 84 1 false 83,ji 85 5 1 10 (ci 0),jl 86 1 false 85,oj 87 (.xcall 158 [84,86,(cu 0)]),jm 82 87,je 88 82 0,je 89 82 1,jm 17 88,jm 18 89]
def Z0f7:LJ:=[ji 93 5 1 10 (ci 1),jl 94 1 false 93,jf 95 0 16,jl 96 1 false 95,jm 97 18,jb 98 .add 96 97,jb 99 .shl 98 (cu 13),jm 100 17,jb 101 .shr 100 (cu 51),jb 102 .or 99 101,jb 103 .add 94 102,ji 104 5 1 10 (ci 1),js' 1 104 103]
def d92:FnD:=⟨107,[.cell 4 5 true],(.sq [jx 2 80 0,jx 3 80 1,ja 4 80 [Z5]] (.seq (.draw Z0ne [4,5]) (.sq [ja 5 188 [Z10]] (.seq (.sq [jl 23 5 true 2,jm 24 (ci 0)] (.block 0 Z0hr)) (.sq [ja 10 80 [Z5]] (.sq [jm 11 (cu 0)] (.seq (.sq [jl 55 10 true 5,jm 56 (ci 0)] (.block 4 Z0hv)) (.sq [ja 16 187 [.ints .u64 2 (replicate 2 0)]] (.sq [jm 80 11,jc 81 157 [16,80,(cu 19)]] (.sq Z0f6 (.sq [jm 90 17,jb 91 .and 90 (cu 2251799813685247),ji 92 5 1 10 (ci 0),js' 1 92 91] (.sq Z0f7 (.sq [jl 105 5 true 10,jc 106 155 [105],js' 5 4 106] .ret)))))))))))))⟩
theorem ok92:okF Tryz.prog 92 d92=true:=by kernel_rfl
def d123:FnD:=⟨6,[.cell 2 5 true],(.sq [jx 1 80 0,ja 2 80 [Z5]] (.sq [jl 3 5 true 1,jl 4 5 true 1,jc 5 92 [3,4],js' 5 2 5] .ret))⟩
theorem Z0ja:okF Tryz.prog 123 d123=true:=by kernel_rfl
def d188:FnD:=⟨6,[.cell 2 5 true],(.sq [ja 2 80 [Z5]] (.sq [jm 3 0,jd 4 [Z5] [(0,1,3)],jc 5 155 [4],js' 5 2 5] .ret))⟩
theorem Z0kc:okF Tryz.prog 188 d188=true:=by kernel_rfl
def Z0cf:LJ:=[jm 14 6,jb 15 .quo 14 (ci 8),ji 16 32 1 3 15,jl 17 1 false 16,jm 18 6,jb 19 .rem 18 (ci 8),jb 20 .shr 17 19,jb 21 .and 20 (c8 1),jb 22 .eql 21 (c8 1)]
def Z06d:IC:=(.sq [jl 12 5 true 5,jc 13 123 [12],js' 5 5 13] (.sq Z0cf (.cond 22 (.ops [jl 23 5 true 5,jl 24 5 true 2,jc 25 92 [23,24],js' 5 5 25]) .skip)))
def Z09c:IC:=(.seq (.sq [jm 8 6,jb 9 .geq 8 (ci 0)] (.cond 9 .skip (.exit 0))) (.seq (.block 1 Z06d) (.ops [jm 10 6,jb 11 .sub 10 (ci 1),jm 6 11])))
def Z06c:IC:=(.loop Z09c)
def d153:FnD:=⟨27,[.cell 4 5 true],(.sq [jx 2 80 0,jx 3 22 1,ja 4 80 [Z5]] (.sq [jc 7 188 [(cu 1)],ja 5 80 [Z5],js' 5 5 7] (.seq (.sq [jm 6 (ci 255)] (.block 0 Z06c)) (.sq [jl 26 5 true 5,js' 5 4 26] .ret))))⟩
theorem Z0jr:okF Tryz.prog 153 d153=true:=by kernel_rfl
def Z06f:IC:=(.sq [jm 9 7,jm 6 9] (.ops [jm 10 6,ji 11 32 1 5 10,js' 1 11 (c8 255)]))
def Z09d:IC:=(.sq [jb 8 .lss 7 (ci 32)] (.seq (.cond 8 .skip (.exit 0)) (.seq (.block 1 Z06f) (.ops [jb 12 .add 7 (ci 1),jm 7 12]))))
def Z06e:IC:=(.loop Z09d)
def d154:FnD:=⟨18,[.cell 4 32 true],(.sq [ja 4 22 [.ints .u8 32 (replicate 32 0)]] (.sq [ja 5 22 [.ints .u8 32 (replicate 32 0)]] (.seq (.sq [jm 7 (ci 0)] (.block 0 Z06e)) (.sq [jm 13 0,jm 14 1,ji 15 32 1 5 (ci 0),js' 1 15 13,ji 16 32 1 5 (ci 31),js' 1 16 14] (.sq [jl 17 32 true 5,js' 32 4 17] .ret)))))⟩
theorem Z0js:okF Tryz.prog 154 d154=true:=by kernel_rfl
def Z0na:Sch:=(.P 1 (jc 4 154 [(c8 235),(c8 127)]) (.Q 0 (jl 3 5 true 1) (.P 2 (jc 5 153 [3,4]) (.e 3 (jo' 5 2 5) .nil))))
def d90:FnD:=⟨6,[.cell 2 5 true],(.sq [jx 1 80 0,ja 2 80 [Z5]] (.seq (.draw Z0na [3]) .ret))⟩
theorem ok90:okF Tryz.prog 90 d90=true:=by kernel_rfl
def Z0nb:LJ:=[jm 13 4,jb 14 .mul (ci 8) 13,jb 15 .quo 14 (ci 51),jm 16 4,jb 17 .mul (ci 8) 16,jb 18 .rem 17 (ci 51),jm 5 15,jm 6 18]
def Z0nc:LJ:=[jm 24 6,jb 25 .gtr 24 (ci 43),jm 26 25,.lg false 26 29 none [.op ⟨some 27,(some (26,true)),.mv 5⟩,.op ⟨some 28,(some (26,true)),.bin .lss 27 (ci 4)⟩] 28]
def Z0nd:LJ:=[jm 30 7,jm 31 5,jb 32 .add 31 (ci 1),ji 33 5 1 1 32,jl 34 1 false 33,jm 35 6,jb 36 .sub (ci 51) 35,jb 37 .shl 34 36,jb 38 .or 30 37,jm 7 38]
def Z0hq:IC:=(.sq [jm 12 10,jm 4 12] (.sq Z0nb (.sq [jm 19 5,ji 20 5 1 1 19,jl 21 1 false 20,jm 22 6,jb 23 .shr 21 22,jm 7 23] (.seq (.sq Z0nc (.cond 29 (.ops Z0nd) .skip)) (.ops [jm 39 4,jm 40 7,jv 41 .u8 40,ji 42 32 1 3 39,js' 1 42 41])))))
def Z0ij:IC:=(.sq [jb 11 .lss 10 (ci 32)] (.seq (.cond 11 .skip (.exit 0)) (.seq (.block 1 Z0hq) (.ops [jb 43 .add 10 (ci 1),jm 10 43]))))
def Z0hp:IC:=(.loop Z0ij)
def d91:FnD:=⟨45,[.cell 2 32 true],(.sq [jx 1 80 0,ja 2 22 [.ints .u8 32 (replicate 32 0)]] (.sq [jl 8 5 true 1,jc 9 155 [8],js' 5 1 9] (.sq [ja 3 22 [.ints .u8 32 (replicate 32 0)]] (.seq (.sq [jm 10 (ci 0)] (.block 0 Z0hp)) (.sq [jl 44 32 true 3,js' 32 2 44] .ret)))))⟩
theorem ok91:okF Tryz.prog 91 d91=true:=by kernel_rfl
def d93:FnD:=⟨8,[.tmp 2],(.sq [jx 1 80 0,jm 2 (.const (.bool false))] (.sq [jl 3 5 true 1,jc 4 155 [3],oj 5 (.idx 5 1 false 4 (ci 0)),jb 6 .and 5 (cu 1),jb 7 .eql 6 (cu 1),jm 2 7] .ret))⟩
theorem ok93:okF Tryz.prog 93 d93=true:=by kernel_rfl
def Z0my:LJ:=[jf 8 5 1,jl 9 5 true 8,jl 10 5 true 3,jc 11 92 [9,10],jc 12 91 [11],ja 4 29 [.ints .u8 32 (replicate 32 0)],js' 32 4 12]
def d50:FnD:=⟨23,[.cell 2 32 true],(.sq [jx 1 82 0,ja 2 29 [.ints .u8 32 (replicate 32 0)]] (.sq [jf 5 10 1,jl 6 5 true 5,jc 7 90 [6],ja 3 80 [Z5],js' 5 3 7] (.sq Z0my (.seq (.sq [jf 13 0 1,jl 14 5 true 13,jl 15 5 true 3,jc 16 92 [14,15],jc 17 93 [16]] (.cond 17 (.ops [ji 18 32 1 4 (ci 31),jl 19 1 false 18,jb 20 .or 19 (c8 128),ji 21 32 1 4 (ci 31),js' 1 21 20]) .skip)) (.sq [jl 22 32 true 4,js' 32 2 22] .ret)))))⟩
theorem ok50:okF Tryz.prog 50 d50=true:=by kernel_rfl
def d124:FnD:=⟨2,[.cell 0 5 true],(.sq [ja 0 80 [Z5]] (.sq [jd 1 [Z5] [(0,1,(cu 1))],js' 5 0 1] .ret))⟩
theorem Z0jb:okF Tryz.prog 124 d124=true:=by kernel_rfl
def d134:FnD:=⟨4,[.cell 0 20 true],(.sq [ja 0 82 [Z5,Z5,Z5,Z5]] (.sq [jc 1 124 [],jc 2 124 [],jd 3 [Z5,Z5,Z5,Z5] [(5,5,1),(10,5,2)],js' 20 0 3] .ret))⟩
theorem Z0jg:okF Tryz.prog 134 d134=true:=by kernel_rfl
def Z0bt:Sch:=(.Q 0 (jl 6 5 true 2) (.P 1 (jc 7 156 [6]) (.Q 2 (jl 8 5 true 3) (.P 3 (jc 9 156 [8]) (.e 4 (jo' 5 2 7) (.e 5 (jo' 5 3 9) .nil))))))
def Z0bu:Sch:=(.P 0 (jm 13 5) (.P 1 (ji 14 5 1 2 13) (.P 3 (jm 16 5) (.P 4 (ji 17 5 1 3 16) (.Q 2 (jl 15 1 false 14) (.Q 5 (jl 18 1 false 17) (.P 6 (jb 19 .add 15 18) (.P 7 (ji 20 5 1 2 13) (.e 8 (jo' 1 20 19) .nil)))))))))
def Z063:IC:=(.sq [jm 12 10,jm 5 12] (.draw Z0bu [8]))
def Z097:IC:=(.sq [jb 11 .lss 10 (ci 5)] (.seq (.cond 11 .skip (.exit 0)) (.seq (.block 1 Z063) (.ops [jb 21 .add 10 (ci 1),jm 10 21]))))
def Z062:IC:=(.loop Z097)
def d127:FnD:=⟨24,[.cell 4 5 true],(.sq [jx 2 80 0,jx 3 80 1,ja 4 80 [Z5]] (.seq (.draw Z0bt [4,5]) (.seq (.sq [jm 10 (ci 0)] (.block 0 Z062)) (.sq [jl 22 5 true 2,jc 23 155 [22],js' 5 4 23] .ret))))⟩
theorem Z0jd:okF Tryz.prog 127 d127=true:=by kernel_rfl
def Z0bv:LJ:=[ji 7 5 1 1 (ci 0),jl 8 1 false 7,jb 9 .sub (cu 4503599627370458) 8,jd 10 [Z5] [(0,1,9)],ja 3 80 [Z5],js' 5 3 10]
def Z0bw:LJ:=[jm 15 4,jm 16 4,ji 17 5 1 1 16,jl 18 1 false 17,jb 19 .sub (cu 4503599627370494) 18,ji 20 5 1 3 15,js' 1 20 19]
def Z065:IC:=(.ops Z0bw)
def Z098:IC:=(.seq (.sq [jm 11 4,jb 12 .lss 11 (ci 5)] (.cond 12 .skip (.exit 0))) (.seq (.block 1 Z065) (.ops [jm 13 4,jb 14 .add 13 (ci 1),jm 4 14])))
def Z064:IC:=(.loop Z098)
def d130:FnD:=⟨23,[.cell 2 5 true],(.sq [jx 1 80 0,ja 2 80 [Z5]] (.sq [jl 5 5 true 1,jc 6 155 [5],js' 5 1 6] (.sq Z0bv (.seq (.sq [jm 4 (ci 1)] (.block 0 Z064)) (.sq [jl 21 5 true 3,jc 22 155 [21],js' 5 2 22] .ret)))))⟩
theorem Z0je:okF Tryz.prog 130 d130=true:=by kernel_rfl
def Z0bs:Sch:=(.Q 0 (jl 5 5 true 2) (.Q 1 (jl 6 5 true 3) (.P 2 (jc 7 130 [6]) (.P 3 (jc 8 127 [5,7]) (.e 4 (jo' 5 4 8) .nil)))))
def d126:FnD:=⟨9,[.cell 4 5 true],(.sq [jx 2 80 0,jx 3 80 1,ja 4 80 [Z5]] (.seq (.draw Z0bs [4]) .ret))⟩
theorem Z0jc:okF Tryz.prog 126 d126=true:=by kernel_rfl
def Z0d9:Sch:=(.Q 0 (jl 9 5 true 4) (.Q 1 (jl 10 5 true 5) (.P 2 (jc 11 92 [9,10]) (.Q 3 (jl 12 5 true 6) (.Q 4 (jl 13 5 true 7) (.P 5 (jc 14 92 [12,13]) (.Q 6 (jl 15 5 true 5) (.Q 7 (jl 16 5 true 6) (.P 8 (jc 17 92 [15,16]) (.Q 9 (jl 18 5 true 4) (.Q 10 (jl 19 5 true 7) (.P 11 (jc 20 92 [18,19]) (.P 12 (jd 21 [Z5,Z5,Z5,Z5] [(0,5,11),(5,5,14),(10,5,17),(15,5,20)]) (.e 13 (jo' 20 8 21) .nil))))))))))))))
def d191:FnD:=⟨22,[.cell 8 20 true],(.sq [jx 4 80 0,jx 5 80 1,jx 6 80 2,jx 7 80 3,ja 8 82 [Z5,Z5,Z5,Z5]] (.seq (.draw Z0d9 [13]) .ret))⟩
theorem Z0kd:okF Tryz.prog 191 d191=true:=by kernel_rfl
def Z0da:LJ:=[jd 1 [Z5] [(0,1,(cu 1859910466990425)),(1,1,(cu 932731440258426)),(2,1,(cu 1072319116312658)),(3,1,(cu 1815898335770999)),(4,1,(cu 633789495995903))],js' 5 0 1]
def d192:FnD:=⟨2,[.cell 0 5 true],(.sq [ja 0 80 [Z5]] (.sq Z0da .ret))⟩
theorem Z0ke:okF Tryz.prog 192 d192=true:=by kernel_rfl
def Z0c0:Sch:=(.P 0 (jf 10 5 2) (.P 2 (jf 12 0 2) (.P 5 (jf 15 5 3) (.P 7 (jf 17 0 3) (.Q 1 (jl 11 5 true 10) (.Q 3 (jl 13 5 true 12) (.P 4 (jc 14 126 [11,13]) (.Q 6 (jl 16 5 true 15) (.Q 8 (jl 18 5 true 17) (.P 9 (jc 19 126 [16,18]) (.P 10 (jc 20 92 [14,19]) (.e 11 (oi 5 (.al 80 [Z5])) (.e 12 (jo' 5 5 20) .nil)))))))))))))
def Z0c1:Sch:=(.P 0 (jf 21 5 2) (.P 2 (jf 23 0 2) (.P 5 (jf 26 5 3) (.P 7 (jf 28 0 3) (.Q 1 (jl 22 5 true 21) (.Q 3 (jl 24 5 true 23) (.P 4 (jc 25 127 [22,24]) (.Q 6 (jl 27 5 true 26) (.Q 8 (jl 29 5 true 28) (.P 9 (jc 30 127 [27,29]) (.P 10 (jc 31 92 [25,30]) (.e 11 (oi 6 (.al 80 [Z5])) (.e 12 (jo' 5 6 31) .nil)))))))))))))
def Z0c2:Sch:=(.P 0 (jf 33 15 2) (.P 4 (jf 37 15 3) (.Q 1 (jl 34 5 true 33) (.Q 2 (jl 35 5 true 7) (.P 3 (jc 36 92 [34,35]) (.Q 5 (jl 38 5 true 37) (.P 6 (jc 39 92 [36,38]) (.e 7 (oi 8 (.al 80 [Z5])) (.e 8 (jo' 5 8 39) .nil)))))))))
def Z0c3:Sch:=(.P 0 (jf 40 10 2) (.P 2 (jf 42 10 2) (.P 5 (jf 45 10 3) (.Q 1 (jl 41 5 true 40) (.Q 3 (jl 43 5 true 42) (.P 4 (jc 44 127 [41,43]) (.Q 6 (jl 46 5 true 45) (.P 7 (jc 47 92 [44,46]) (.e 8 (oi 9 (.al 80 [Z5])) (.e 9 (jo' 5 9 47) .nil))))))))))
def Z0c4:Sch:=(.Q 0 (jl 48 5 true 6) (.Q 1 (jl 49 5 true 5) (.P 2 (jc 50 126 [48,49]) (.Q 3 (jl 51 5 true 9) (.Q 4 (jl 52 5 true 8) (.P 5 (jc 53 126 [51,52]) (.Q 6 (jl 54 5 true 9) (.Q 7 (jl 55 5 true 8) (.P 8 (jc 56 127 [54,55]) (.Q 9 (jl 57 5 true 6) (.Q 10 (jl 58 5 true 5) (.P 11 (jc 59 127 [57,58]) (.P 12 (jc 60 191 [50,53,56,59]) (.e 13 (jo' 20 4 60) .nil))))))))))))))
def d136:FnD:=⟨61,[.cell 4 20 true],(.sq [jx 2 82 0,jx 3 82 1,ja 4 82 [Z5,Z5,Z5,Z5]] (.seq (.draw Z0c0 [12]) (.seq (.draw Z0c1 [12]) (.sq [jc 32 192 [],ja 7 80 [Z5],js' 5 7 32] (.seq (.draw Z0c2 [8]) (.seq (.draw Z0c3 [9]) (.seq (.draw Z0c4 [13]) .ret)))))))⟩
theorem Z0ji:okF Tryz.prog 136 d136=true:=by kernel_rfl
def Z0bx:Sch:=(.P 0 (jm 10 4) (.P 1 (jb 11 .add 10 (ci 1)) (.P 2 (jm 12 4) (.P 3 (ji 13 16 20 3 12) (.Q 4 (jl 14 20 true 13) (.Q 5 (jl 15 20 true 1) (.P 6 (jc 16 136 [14,15]) (.P 7 (ji 17 16 20 3 11) (.e 8 (jo' 20 17 16) .nil)))))))))
def Z067:IC:=(.sq [jm 9 7,jm 4 9] (.draw Z0bx [8]))
def Z099:IC:=(.sq [jb 8 .lss 7 (ci 15)] (.seq (.cond 8 .skip (.exit 0)) (.seq (.block 1 Z067) (.ops [jb 18 .add 7 (ci 1),jm 7 18]))))
def Z066:IC:=(.loop Z099)
def d133:FnD:=⟨20,[.cell 2 320 true],(.sq [jx 1 82 0,ja 2 166 [.rows 20 16 (fun _=>cells [Z5,Z5,Z5,Z5])]] (.sq [ja 3 166 [.rows 20 16 (fun _=>cells [Z5,Z5,Z5,Z5])]] (.sq [jc 5 134 [],ji 6 16 20 3 (ci 0),js' 20 6 5] (.seq (.sq [jm 7 (ci 0)] (.block 0 Z066)) (.sq [jl 19 320 true 3,js' 320 2 19] .ret)))))⟩
theorem Z0jf:okF Tryz.prog 133 d133=true:=by kernel_rfl
def Z0by:Sch:=(.P 1 (jf 23 0 1) (.P 3 (jf 25 5 1) (.Q 0 (jl 22 5 true 6) (.Q 2 (jl 24 5 true 23) (.Q 4 (jl 26 5 true 25) (.P 5 (jc 27 127 [24,26]) (.P 6 (jc 28 123 [27]) (.P 7 (jc 29 126 [22,28]) (.e 8 (oi 7 (.al 80 [Z5])) (.e 9 (jo' 5 7 29) .nil))))))))))
def Z0bz:Sch:=(.Q 0 (jl 33 5 true 5) (.Q 1 (jl 34 5 true 5) (.P 2 (jc 35 127 [33,34]) (.Q 3 (jl 36 5 true 8) (.P 4 (jc 37 127 [35,36]) (.e 5 (oi 9 (.al 80 [Z5])) (.e 6 (jo' 5 9 37) .nil)))))))
def d135:FnD:=⟨43,[.cell 2 20 true],(.sq [jx 1 82 0,ja 2 82 [Z5,Z5,Z5,Z5]] (.sq [jf 10 0 1,jl 11 5 true 10,jc 12 123 [11],ja 3 80 [Z5],js' 5 3 12] (.sq [jf 13 5 1,jl 14 5 true 13,jc 15 123 [14],ja 4 80 [Z5],js' 5 4 15] (.sq [jf 16 10 1,jl 17 5 true 16,jc 18 123 [17],ja 5 80 [Z5],js' 5 5 18] (.sq [jl 19 5 true 3,jl 20 5 true 4,jc 21 127 [19,20],ja 6 80 [Z5],js' 5 6 21] (.seq (.draw Z0by [9]) (.sq [jl 30 5 true 3,jl 31 5 true 4,jc 32 126 [30,31],ja 8 80 [Z5],js' 5 8 32] (.seq (.draw Z0bz [6]) (.sq [jl 38 5 true 7,jl 39 5 true 9,jl 40 5 true 8,jl 41 5 true 6,jc 42 191 [38,39,40,41],js' 20 2 42] .ret)))))))))⟩
theorem Z0jh:okF Tryz.prog 135 d135=true:=by kernel_rfl
def Z0c5:LJ:=[jm 5 1,jb 6 .quo 5 (ci 2),jb 7 .sub (ci 31) 6,ji 8 32 1 2 7,jl 9 1 false 8,jm 10 1,jb 11 .rem 10 (ci 2),jb 12 .sub (ci 1) 11,jb 13 .mul (ci 4) 12,jb 14 .shr 9 13,jb 15 .and 14 (c8 15),jm 4 15]
def d137:FnD:=⟨16,[.tmp 4],(.sq [jx 2 74 0,jm 4 (c8 0)] (.sq Z0c5 .ret))⟩
theorem Z0jj:okF Tryz.prog 137 d137=true:=by kernel_rfl
def Z0i0:IC:=(.ops [jl 16 20 true 6,jc 17 135 [16],js' 20 6 17])
def Z0io:IC:=(.sq [jb 15 .lss 14 (ci 4)] (.seq (.cond 15 .skip (.exit 2)) (.seq (.block 3 Z0i0) (.ops [jb 18 .add 14 (ci 1),jm 14 18]))))
def Z0hz:IC:=(.loop Z0io)
def Z0f8:Sch:=(.P 2 (jm 21 7) (.Q 0 (jl 19 20 true 6) (.Q 1 (jl 20 32 true 2) (.P 3 (jc 22 137 [20,21]) (.P 4 (ji 23 16 20 5 22) (.Q 5 (jl 24 20 true 23) (.P 6 (jc 25 136 [19,24]) (.e 7 (jo' 20 6 25) .nil))))))))
def Z0hy:IC:=(.sq [jm 13 11,jm 7 13] (.seq (.sq [jm 14 (ci 0)] (.block 2 Z0hz)) (.draw Z0f8 [7])))
def Z0in:IC:=(.sq [jb 12 .lss 11 (ci 64)] (.seq (.cond 12 .skip (.exit 0)) (.seq (.block 1 Z0hy) (.ops [jb 26 .add 11 (ci 1),jm 11 26]))))
def Z0hx:IC:=(.loop Z0in)
def d94:FnD:=⟨28,[.cell 4 20 true],(.sq [jx 2 74 0,jx 3 82 1,ja 4 82 [Z5,Z5,Z5,Z5]] (.sq [jl 8 20 true 3,jc 9 133 [8],ja 5 166 [.rows 20 16 (fun _=>cells [Z5,Z5,Z5,Z5])],js' 320 5 9] (.sq [jc 10 134 [],ja 6 82 [Z5,Z5,Z5,Z5],js' 20 6 10] (.seq (.sq [jm 11 (ci 0)] (.block 0 Z0hx)) (.sq [jl 27 20 true 6,js' 20 4 27] .ret)))))⟩
theorem ok94:okF Tryz.prog 94 d94=true:=by kernel_rfl
def Z0bp:LJ:=[jm 17 4,jb 18 .mul (ci 8) 17,jb 19 .quo 18 (ci 51),jm 20 4,jb 21 .mul (ci 8) 20,jb 22 .rem 21 (ci 51),jm 6 19,jm 7 22]
def Z0bq:Sch:=(.P 0 (jm 23 6) (.P 1 (ji 24 5 1 3 23) (.P 3 (jm 26 5) (.P 4 (jv 27 .u64 26) (.P 5 (jm 28 7) (.P 6 (jb 29 .shl 27 28) (.P 7 (jb 30 .and 29 (cu 2251799813685247)) (.Q 2 (jl 25 1 false 24) (.P 8 (jb 31 .or 25 30) (.P 9 (ji 32 5 1 3 23) (.e 10 (jo' 1 32 31) .nil)))))))))))
def Z0br:LJ:=[jm 33 7,jb 34 .gtr 33 (ci 43),jm 35 34,.lg false 35 38 none [.op ⟨some 36,(some (35,true)),.mv 6⟩,.op ⟨some 37,(some (35,true)),.bin .lss 36 (ci 4)⟩] 37]
def Z02n:Sch:=(.P 0 (jm 39 6) (.P 1 (jb 40 .add 39 (ci 1)) (.P 2 (ji 41 5 1 3 40) (.P 4 (jm 43 5) (.P 5 (jv 44 .u64 43) (.P 6 (jm 45 7) (.P 7 (jb 46 .sub (ci 51) 45) (.P 8 (jb 47 .shr 44 46) (.Q 3 (jl 42 1 false 41) (.P 9 (jb 48 .or 42 47) (.P 10 (ji 49 5 1 3 40) (.e 11 (jo' 1 49 48) .nil))))))))))))
def Z061:IC:=(.sq [jm 11 9,oj 12 (.idx 32 1 false 8 9),jm 4 11,jm 5 12] (.seq (.sq [jm 13 4,jb 14 .eql 13 (ci 31)] (.cond 14 (.ops [jm 15 5,jb 16 .and 15 (c8 127),jm 5 16]) .skip)) (.sq Z0bp (.seq (.draw Z0bq [10]) (.sq Z0br (.cond 38 (.draw Z02n [11]) .skip))))))
def Z096:IC:=(.sq [jb 10 .lss 9 (ci 32)] (.seq (.cond 10 .skip (.exit 0)) (.seq (.block 1 Z061) (.ops [jb 50 .add 9 (ci 1),jm 9 50]))))
def Z060:IC:=(.loop Z096)
def d122:FnD:=⟨53,[.cell 2 5 true],(.sq [jx 1 22 0,ja 2 80 [Z5]] (.sq [ja 3 80 [Z5]] (.seq (.sq [jl 8 32 true 1,jm 9 (ci 0)] (.block 0 Z060)) (.sq [jl 51 5 true 3,jc 52 155 [51],js' 5 2 52] .ret))))⟩
theorem Z0j9:okF Tryz.prog 122 d122=true:=by kernel_rfl
def Z0nf:LJ:=[jd 5 [.ints .u8 32 (replicate 32 0)] [(0,1,(c8 26)),(1,1,(c8 213)),(2,1,(c8 37)),(3,1,(c8 143)),(4,1,(c8 96)),(5,1,(c8 45)),(6,1,(c8 86)),(7,1,(c8 201)),(8,1,(c8 178)),(9,1,(c8 167)),(10,1,(c8 37)),(11,1,(c8 149)),(12,1,(c8 96)),(13,1,(c8 199)),(14,1,(c8 44)),(15,1,(c8 105)),(16,1,(c8 92)),(17,1,(c8 220)),(18,1,(c8 214)),(19,1,(c8 253)),(20,1,(c8 49)),(21,1,(c8 226)),(22,1,(c8 164)),(23,1,(c8 192)),(24,1,(c8 254)),(25,1,(c8 83)),(26,1,(c8 110)),(27,1,(c8 205)),(28,1,(c8 211)),(29,1,(c8 54)),(30,1,(c8 105)),(31,1,(c8 33))],jc 6 122 [5],ja 1 80 [Z5],js' 5 1 6]
def Z0ng:LJ:=[jd 7 [.ints .u8 32 (replicate 32 0)] [(0,1,(c8 88))],ja 2 22 [.ints .u8 32 (replicate 32 0)],js' 32 2 7]
def Z0i2:IC:=(.sq [jm 10 8,jm 3 10] (.ops [jm 11 3,jb 12 .add 11 (ci 1),ji 13 32 1 2 12,js' 1 13 (c8 102)]))
def Z0ip:IC:=(.sq [jb 9 .lss 8 (ci 31)] (.seq (.cond 9 .skip (.exit 0)) (.seq (.block 1 Z0i2) (.ops [jb 14 .add 8 (ci 1),jm 8 14]))))
def Z0i1:IC:=(.loop Z0ip)
def Z0nh:Sch:=(.P 2 (jc 19 124 []) (.Q 0 (jl 17 5 true 1) (.Q 1 (jl 18 5 true 4) (.Q 3 (jl 20 5 true 1) (.Q 4 (jl 21 5 true 4) (.P 5 (jc 22 92 [20,21]) (.P 6 (jd 23 [Z5,Z5,Z5,Z5] [(0,5,17),(5,5,18),(10,5,19),(15,5,22)]) (.e 7 (jo' 20 0 23) .nil))))))))
def d95:FnD:=⟨24,[.cell 0 20 true],(.sq [ja 0 82 [Z5,Z5,Z5,Z5]] (.sq Z0nf (.sq Z0ng (.seq (.sq [jm 8 (ci 0)] (.block 0 Z0i1)) (.sq [jl 15 32 true 2,jc 16 122 [15],ja 4 80 [Z5],js' 5 4 16] (.seq (.draw Z0nh [7]) .ret))))))⟩
theorem ok95:okF Tryz.prog 95 d95=true:=by kernel_rfl
def Z0mz:Sch:=(.P 1 (jc 4 95 []) (.Q 0 (jl 3 32 true 1) (.P 2 (jc 5 94 [3,4]) (.e 3 (jo' 20 2 5) .nil))))
def d51:FnD:=⟨6,[.cell 2 20 true],(.sq [jx 1 74 0,ja 2 82 [Z5,Z5,Z5,Z5]] (.seq (.draw Z0mz [3]) .ret))⟩
theorem ok51:okF Tryz.prog 51 d51=true:=by kernel_rfl
def Z0ma:LJ:=[jl 6 32 true 1,jc 7 49 [6],jm 5 7,je 8 5 0,je 9 5 1,ja 3 74 [.ints .u8 32 (replicate 32 0)],js' 32 3 8,jm 4 9]
def d12:FnD:=⟨13,[.cell 2 32 true],(.sq [jx 1 23 0,ja 2 29 [.ints .u8 32 (replicate 32 0)]] (.sq Z0ma (.sq [jl 10 32 true 3,jc 11 51 [10],jc 12 50 [11],js' 32 2 12] .ret)))⟩
theorem ok12:okF Tryz.prog 12 d12=true:=by kernel_rfl
def Z0mk:LJ:=[jl 23 37 true 1,jm 24 6,jc 25 19 [23,24],jm 22 25,je 26 22 0,je 27 22 1,ja 7 23 [.ints .u8 32 (replicate 32 0)],js' 32 7 26,jm 8 27]
def Z0dw:LJ:=[jf 34 32 5,jl 35 1 false 34,jl 36 32 true 9,oj 37 (.bs 29 1 32 [.ints .u8 32 (replicate 32 0)] [(0,32,36)]),oj 38 (.app 29 32 32 [.ints .u8 32 (replicate 32 0)] 35 37),jf 39 32 5,js' 1 39 38]
def Z0h2:IC:=(.sq [jm 21 19,jm 6 21] (.sq Z0mk (.sq [jl 28 32 true 7,jc 29 12 [28],ja 9 29 [.ints .u8 32 (replicate 32 0)],js' 32 9 29] (.sq [jm 30 6,jb 31 .eql 30 (ci 0)] (.cond 31 (.ops [jl 32 32 true 9,jf 33 0 5,js' 32 33 32]) (.ops Z0dw))))))
def Z0i7:IC:=(.sq [jb 20 .lss 19 18] (.seq (.cond 20 .skip (.exit 0)) (.seq (.block 1 Z0h2) (.ops [jb 40 .add 19 (ci 1),jm 19 40]))))
def Z0h1:IC:=(.loop Z0i7)
def d21:FnD:=⟨42,[.cell 2 33 true,.tmp 3],(.sq [jx 1 34 0,ja 2 42 [.ints .u8 32 (replicate 32 0),.one (.slice none 0 0)],jm 3 (ci 0)] (.seq (.sq [jl 10 37 true 1,jc 11 17 [10],jm 4 11] (.sq [jm 12 4,jb 13 .neq 12 (ci 0)] (.cond 13 (.sq [jd 14 [.ints .u8 32 (replicate 32 0),.one (.slice none 0 0)] [],jm 15 4,js' 33 2 14,jm 3 15] .ret) .skip))) (.sq [ja 5 42 [.ints .u8 32 (replicate 32 0),.one (.slice none 0 0)]] (.seq (.sq [jf 16 0 1,jl 17 1 false 16,jb 18 .add 17 (ci 1),jm 19 (ci 0)] (.block 0 Z0h1)) (.sq [jl 41 33 true 5,js' 33 2 41,jm 3 (ci 0)] .ret)))))⟩
theorem ok21:okF Tryz.prog 21 d21=true:=by kernel_rfl
def Z0dj:Sch:=(.P 0 (jm 12 6) (.P 1 (ji 13 10 1 2 12) (.P 5 (jm 17 6) (.P 6 (ji 18 10 1 3 17) (.P 9 (jm 21 5) (.Q 2 (jl 14 1 false 13) (.P 3 (jb 15 .add 14 (cu 67108863)) (.P 4 (jb 16 .add 15 (cu 1)) (.Q 7 (jl 19 1 false 18) (.P 8 (jb 20 .sub 16 19) (.P 10 (jb 22 .sub 20 21) (.P 11 (jm 7 22) .nil))))))))))))
def Z079:IC:=(.seq (.draw Z0dj []) (.sq [jm 23 7,jb 24 .shr 23 (cu 26),jb 25 .sub (cu 1) 24,jm 5 25] (.ops [jm 26 6,jm 27 7,jb 28 .and 27 (cu 67108863),ji 29 10 1 2 26,js' 1 29 28])))
def Z09s:IC:=(.seq (.sq [jm 8 6,jb 9 .lss 8 (ci 10)] (.cond 9 .skip (.exit 0))) (.seq (.block 1 Z079) (.ops [jm 10 6,jb 11 .add 10 (ci 1),jm 6 11])))
def Z078:IC:=(.loop Z09s)
def d197:FnD:=⟨31,[.cell 4 10 true],(.sq [jx 2 88 0,jx 3 88 1,ja 4 88 [Z10]] (.sq [jm 5 (cu 0)] (.seq (.sq [jm 6 (ci 0)] (.block 0 Z078)) (.sq [jl 30 10 true 2,js' 10 4 30] .ret))))⟩
theorem Z0kj:okF Tryz.prog 197 d197=true:=by kernel_rfl
def Z0dk:LJ:=[jd 1 [Z10] [(0,1,(cu 67108845)),(1,1,(cu 67108863)),(2,1,(cu 67108863)),(3,1,(cu 67108863)),(4,1,(cu 67108863)),(5,1,(cu 67108863)),(6,1,(cu 67108863)),(7,1,(cu 67108863)),(8,1,(cu 67108863)),(9,1,(cu 2097151))],js' 10 0 1]
def d198:FnD:=⟨2,[.cell 0 10 true],(.sq [ja 0 88 [Z10]] (.sq Z0dk .ret))⟩
theorem Z0kk:okF Tryz.prog 198 d198=true:=by kernel_rfl
def Z0dp:Sch:=(.P 0 (jm 8 3) (.P 1 (jb 9 .add 8 (ci 1)) (.P 2 (jm 10 3) (.P 3 (jb 11 .add 10 (ci 1)) (.P 4 (ji 12 10 1 1 11) (.P 6 (jm 14 3) (.P 7 (ji 15 10 1 1 14) (.Q 5 (jl 13 1 false 12) (.Q 8 (jl 16 1 false 15) (.P 9 (jb 17 .shr 16 (cu 26)) (.P 10 (jb 18 .add 13 17) (.P 11 (ji 19 10 1 1 9) (.e 12 (jo' 1 19 18) .nil)))))))))))))
def Z07f:IC:=(.seq (.draw Z0dp [12]) (.ops [jm 20 3,jm 21 3,ji 22 10 1 1 21,jl 23 1 false 22,jb 24 .and 23 (cu 67108863),ji 25 10 1 1 20,js' 1 25 24]))
def Z09v:IC:=(.seq (.sq [jm 4 3,jb 5 .lss 4 (ci 9)] (.cond 5 .skip (.exit 0))) (.seq (.block 1 Z07f) (.ops [jm 6 3,jb 7 .add 6 (ci 1),jm 3 7])))
def Z07e:IC:=(.loop Z09v)
def d207:FnD:=⟨27,[.cell 2 10 true],(.sq [jx 1 88 0,ja 2 88 [Z10]] (.seq (.sq [jm 3 (ci 0)] (.block 0 Z07e)) (.sq [jl 26 10 true 1,js' 10 2 26] .ret)))⟩
theorem Z0kq:okF Tryz.prog 207 d207=true:=by kernel_rfl
def Z0dq:Sch:=(.P 0 (jm 10 5) (.P 1 (ji 11 10 1 2 10) (.P 3 (jm 13 5) (.P 4 (ji 14 10 1 3 13) (.Q 2 (jl 12 1 false 11) (.Q 5 (jl 15 1 false 14) (.P 6 (jb 16 .neq 12 15) .nil)))))))
def Z0dr:Sch:=(.P 0 (jm 17 5) (.P 1 (ji 18 10 1 2 17) (.P 3 (jm 20 5) (.P 4 (ji 21 10 1 3 20) (.Q 2 (jl 19 1 false 18) (.Q 5 (jl 22 1 false 21) (.P 6 (jb 23 .lss 19 22) (.P 7 (jm 4 23) .nil))))))))
def Z07h:IC:=(.seq (.draw Z0dq []) (.cond 16 (.seq (.draw Z0dr []) .ret) .skip))
def Z09w:IC:=(.seq (.sq [jm 6 5,jb 7 .geq 6 (ci 0)] (.cond 7 .skip (.exit 0))) (.seq (.block 1 Z07h) (.ops [jm 8 5,jb 9 .sub 8 (ci 1),jm 5 9])))
def Z07g:IC:=(.loop Z09w)
def d208:FnD:=⟨24,[.tmp 4],(.sq [jx 2 88 0,jx 3 88 1,jm 4 (.const (.bool false))] (.seq (.sq [jm 5 (ci 9)] (.block 0 Z07g)) (.sq [jm 4 (.const (.bool false))] .ret)))⟩
theorem Z0kr:okF Tryz.prog 208 d208=true:=by kernel_rfl
def Z0ct:LJ:=[ji 9 10 1 1 (ci 0),jl 10 1 false 9,ji 11 10 1 1 (ci 9),jl 12 1 false 11,jb 13 .shr 12 (cu 21),jb 14 .mul (cu 19) 13,jb 15 .add 10 14,ji 16 10 1 1 (ci 0),js' 1 16 15]
def Z06t:IC:=(.sq Z0ct (.sq [ji 17 10 1 1 (ci 9),jl 18 1 false 17,jb 19 .and 18 (cu 2097151),ji 20 10 1 1 (ci 9),js' 1 20 19] (.ops [jl 21 10 true 1,jc 22 207 [21],js' 10 1 22])))
def Z09k:IC:=(.seq (.sq [ji 6 10 1 1 (ci 9),jl 7 1 false 6,jb 8 .gtr 7 (cu 2097151)] (.cond 8 .skip (.exit 0))) (.block 1 Z06t))
def Z06s:IC:=(.loop Z09k)
def d172:FnD:=⟨32,[.cell 2 10 true],(.sq [jx 1 88 0,ja 2 88 [Z10]] (.sq [jl 4 10 true 1,jc 5 207 [4],js' 10 1 5] (.seq (.block 0 Z06s) (.sq [jc 23 198 [],ja 3 88 [Z10],js' 10 3 23] (.seq (.sq [jl 24 10 true 1,jl 25 10 true 3,jc 26 208 [24,25],oj 27 (.un .not 26)] (.cond 27 (.ops [jl 28 10 true 1,jl 29 10 true 3,jc 30 197 [28,29],js' 10 1 30]) .skip)) (.sq [jl 31 10 true 1,js' 10 2 31] .ret))))))⟩
theorem Z0k1:okF Tryz.prog 172 d172=true:=by kernel_rfl
def Z0bd:Sch:=(.P 0 (jm 19 6) (.P 1 (jm 20 7) (.P 2 (jb 21 .add 19 20) (.P 3 (jm 22 6) (.P 4 (jm 23 7) (.P 5 (jb 24 .add 22 23) (.P 6 (ji 25 20 1 5 24) (.P 8 (jm 27 6) (.P 9 (ji 28 10 1 2 27) (.P 11 (jm 30 7) (.P 12 (ji 31 10 1 3 30) (.Q 7 (jl 26 1 false 25) (.Q 10 (jl 29 1 false 28) (.Q 13 (jl 32 1 false 31) (.P 14 (jb 33 .mul 29 32) (.P 15 (jb 34 .add 26 33) (.P 16 (ji 35 20 1 5 21) (.e 17 (jo' 1 35 34) .nil))))))))))))))))))
def Z059:IC:=(.draw Z0bd [17])
def Z08s:IC:=(.seq (.sq [jm 15 7,jb 16 .lss 15 (ci 10)] (.cond 16 .skip (.exit 2))) (.seq (.block 3 Z059) (.ops [jm 17 7,jb 18 .add 17 (ci 1),jm 7 18])))
def Z058:IC:=(.loop Z08s)
def Z057:IC:=(.sq [jm 7 (ci 0)] (.block 2 Z058))
def Z08r:IC:=(.seq (.sq [jm 11 6,jb 12 .lss 11 (ci 10)] (.cond 12 .skip (.exit 0))) (.seq (.block 1 Z057) (.ops [jm 13 6,jb 14 .add 13 (ci 1),jm 6 14])))
def Z056:IC:=(.loop Z08r)
def Z02j:Sch:=(.P 0 (jm 40 8) (.P 1 (jb 41 .add 40 (ci 1)) (.P 2 (jm 42 8) (.P 3 (jb 43 .add 42 (ci 1)) (.P 4 (ji 44 20 1 5 43) (.P 6 (jm 46 8) (.P 7 (ji 47 20 1 5 46) (.Q 5 (jl 45 1 false 44) (.Q 8 (jl 48 1 false 47) (.P 9 (jb 49 .shr 48 (cu 26)) (.P 10 (jb 50 .add 45 49) (.P 11 (ji 51 20 1 5 41) (.e 12 (jo' 1 51 50) .nil)))))))))))))
def Z05b:IC:=(.seq (.draw Z02j [12]) (.ops [jm 52 8,jm 53 8,ji 54 20 1 5 53,jl 55 1 false 54,jb 56 .and 55 (cu 67108863),ji 57 20 1 5 52,js' 1 57 56]))
def Z08t:IC:=(.seq (.sq [jm 36 8,jb 37 .lss 36 (ci 19)] (.cond 37 .skip (.exit 4))) (.seq (.block 5 Z05b) (.ops [jm 38 8,jb 39 .add 38 (ci 1),jm 8 39])))
def Z05a:IC:=(.loop Z08t)
def Z02k:Sch:=(.P 0 (jm 62 10) (.P 1 (jm 63 10) (.P 2 (ji 64 20 1 5 63) (.P 4 (jm 66 10) (.P 5 (jb 67 .add 66 (ci 10)) (.P 6 (ji 68 20 1 5 67) (.Q 3 (jl 65 1 false 64) (.Q 7 (jl 69 1 false 68) (.P 8 (jb 70 .mul (cu 608) 69) (.P 9 (jb 71 .add 65 70) (.P 10 (ji 72 10 1 9 62) (.e 11 (jo' 1 72 71) .nil))))))))))))
def Z05d:IC:=(.draw Z02k [11])
def Z08u:IC:=(.seq (.sq [jm 58 10,jb 59 .lss 58 (ci 10)] (.cond 59 .skip (.exit 6))) (.seq (.block 7 Z05d) (.ops [jm 60 10,jb 61 .add 60 (ci 1),jm 10 61])))
def Z05c:IC:=(.loop Z08u)
def d104:FnD:=⟨75,[.cell 4 10 true],(.sq [jx 2 88 0,jx 3 88 1,ja 4 88 [Z10]] (.sq [ja 5 205 [.ints .u64 20 (replicate 20 0)]] (.seq (.sq [jm 6 (ci 0)] (.block 0 Z056)) (.seq (.sq [jm 8 (ci 0)] (.block 4 Z05a)) (.sq [ja 9 88 [Z10]] (.seq (.sq [jm 10 (ci 0)] (.block 6 Z05c)) (.sq [jl 73 10 true 9,jc 74 172 [73],js' 10 4 74] .ret)))))))⟩
theorem Z0ix:okF Tryz.prog 104 d104=true:=by kernel_rfl
def Z0d0:LJ:=[jm 3 0,jb 4 .and 3 (cu 67108863),jm 5 0,jb 6 .shr 5 (cu 26),jb 7 .and 6 (cu 67108863),jm 8 0,jb 9 .shr 8 (cu 52),jd 10 [Z10] [(0,1,4),(1,1,7),(2,1,9)],js' 10 2 10]
def d176:FnD:=⟨11,[.cell 2 10 true],(.sq [ja 2 88 [Z10]] (.sq Z0d0 .ret))⟩
theorem Z0k5:okF Tryz.prog 176 d176=true:=by kernel_rfl
def Z0cs:LJ:=[jm 15 6,jb 16 .quo 15 (ci 8),ji 17 32 1 3 16,jl 18 1 false 17,jm 19 6,jb 20 .rem 19 (ci 8),jb 21 .shr 18 20,jb 22 .and 21 (c8 1),jb 23 .eql 22 (c8 1)]
def Z06p:IC:=(.sq [jl 12 10 true 5,jl 13 10 true 5,jc 14 104 [12,13],js' 10 5 14] (.sq Z0cs (.cond 23 (.ops [jl 24 10 true 5,jl 25 10 true 2,jc 26 104 [24,25],js' 10 5 26]) .skip)))
def Z09i:IC:=(.seq (.sq [jm 8 6,jb 9 .geq 8 (ci 0)] (.cond 9 .skip (.exit 0))) (.seq (.block 1 Z06p) (.ops [jm 10 6,jb 11 .sub 10 (ci 1),jm 6 11])))
def Z06o:IC:=(.loop Z09i)
def d170:FnD:=⟨28,[.cell 4 10 true],(.sq [jx 2 88 0,jx 3 22 1,ja 4 88 [Z10]] (.sq [jc 7 176 [(cu 1)],ja 5 88 [Z10],js' 10 5 7] (.seq (.sq [jm 6 (ci 255)] (.block 0 Z06o)) (.sq [jl 27 10 true 5,js' 10 4 27] .ret))))⟩
theorem Z0jz:okF Tryz.prog 170 d170=true:=by kernel_rfl
def Z06r:IC:=(.ops [jm 11 6,ji 12 32 1 5 11,js' 1 12 (c8 255)])
def Z09j:IC:=(.seq (.sq [jm 7 6,jb 8 .lss 7 (ci 32)] (.cond 8 .skip (.exit 0))) (.seq (.block 1 Z06r) (.ops [jm 9 6,jb 10 .add 9 (ci 1),jm 6 10])))
def Z06q:IC:=(.loop Z09j)
def d171:FnD:=⟨18,[.cell 4 32 true],(.sq [ja 4 22 [.ints .u8 32 (replicate 32 0)]] (.sq [ja 5 22 [.ints .u8 32 (replicate 32 0)]] (.seq (.sq [jm 6 (ci 0)] (.block 0 Z06q)) (.sq [jm 13 0,ji 14 32 1 5 (ci 0),js' 1 14 13] (.sq [jm 15 1,ji 16 32 1 5 (ci 31),js' 1 16 15] (.sq [jl 17 32 true 5,js' 32 4 17] .ret))))))⟩
theorem Z0k0:okF Tryz.prog 171 d171=true:=by kernel_rfl
def Z0ba:Sch:=(.P 1 (jc 4 171 [(c8 235),(c8 127)]) (.Q 0 (jl 3 10 true 1) (.P 2 (jc 5 170 [3,4]) (.e 3 (jo' 10 2 5) .nil))))
def d102:FnD:=⟨6,[.cell 2 10 true],(.sq [jx 1 88 0,ja 2 88 [Z10]] (.seq (.draw Z0ba [3]) .ret))⟩
theorem Z0iv:okF Tryz.prog 102 d102=true:=by kernel_rfl
def Z0bb:LJ:=[jm 10 4,jb 11 .quo 10 (ci 26),ji 12 10 1 1 11,jl 13 1 false 12,jm 14 4,jb 15 .rem 14 (ci 26),jb 16 .shr 13 15,jb 17 .and 16 (cu 1),jv 18 .u8 17,jm 5 18]
def Z0bc:Sch:=(.P 0 (jm 19 4) (.P 1 (jb 20 .quo 19 (ci 8)) (.P 2 (jm 21 4) (.P 3 (jb 22 .quo 21 (ci 8)) (.P 4 (ji 23 32 1 3 22) (.P 6 (jm 25 5) (.P 7 (jm 26 4) (.P 8 (jb 27 .rem 26 (ci 8)) (.P 9 (jb 28 .shl 25 27) (.Q 5 (jl 24 1 false 23) (.P 10 (jb 29 .add 24 28) (.P 11 (ji 30 32 1 3 20) (.e 12 (jo' 1 30 29) .nil)))))))))))))
def Z055:IC:=(.sq Z0bb (.draw Z0bc [12]))
def Z08q:IC:=(.seq (.sq [jm 6 4,jb 7 .lss 6 (ci 255)] (.cond 7 .skip (.exit 0))) (.seq (.block 1 Z055) (.ops [jm 8 4,jb 9 .add 8 (ci 1),jm 4 9])))
def Z054:IC:=(.loop Z08q)
def d103:FnD:=⟨32,[.cell 2 32 true],(.sq [jx 1 88 0,ja 2 22 [.ints .u8 32 (replicate 32 0)]] (.sq [ja 3 22 [.ints .u8 32 (replicate 32 0)]] (.seq (.sq [jm 4 (ci 0)] (.block 0 Z054)) (.sq [jl 31 32 true 3,js' 32 2 31] .ret))))⟩
theorem Z0iw:okF Tryz.prog 103 d103=true:=by kernel_rfl
def d105:FnD:=⟨7,[.tmp 2],(.sq [jx 1 88 0,jm 2 (.const (.bool false))] (.sq [ji 3 10 1 1 (ci 0),jl 4 1 false 3,jb 5 .and 4 (cu 1),jb 6 .eql 5 (cu 1),jm 2 6] .ret))⟩
theorem Z0iy:okF Tryz.prog 105 d105=true:=by kernel_rfl
def Z0n0:LJ:=[jf 8 10 1,jl 9 10 true 8,jl 10 10 true 3,jc 11 104 [9,10],jc 12 103 [11],ja 4 22 [.ints .u8 32 (replicate 32 0)],js' 32 4 12]
def d54:FnD:=⟨23,[.cell 2 32 true],(.sq [jx 1 90 0,ja 2 29 [.ints .u8 32 (replicate 32 0)]] (.sq [jf 5 20 1,jl 6 10 true 5,jc 7 102 [6],ja 3 88 [Z10],js' 10 3 7] (.sq Z0n0 (.seq (.sq [jf 13 0 1,jl 14 10 true 13,jl 15 10 true 3,jc 16 104 [14,15],jc 17 105 [16]] (.cond 17 (.ops [ji 18 32 1 4 (ci 31),jl 19 1 false 18,jb 20 .add 19 (c8 128),ji 21 32 1 4 (ci 31),js' 1 21 20]) .skip)) (.sq [jl 22 32 true 4,js' 32 2 22] .ret)))))⟩
theorem ok54:okF Tryz.prog 54 d54=true:=by kernel_rfl
def Z0ca:Sch:=(.P 0 (jc 3 198 []) (.Q 1 (jl 4 10 true 1) (.P 2 (jc 5 197 [3,4]) (.P 3 (jc 6 172 [5]) (.e 4 (jo' 10 2 6) .nil)))))
def d142:FnD:=⟨7,[.cell 2 10 true],(.sq [jx 1 88 0,ja 2 88 [Z10]] (.seq (.draw Z0ca [4]) .ret))⟩
theorem Z0jn:okF Tryz.prog 142 d142=true:=by kernel_rfl
def Z0dc:Sch:=(.P 0 (jm 10 5) (.P 1 (jm 11 5) (.P 2 (ji 12 10 1 2 11) (.P 4 (jm 14 5) (.P 5 (ji 15 10 1 3 14) (.Q 3 (jl 13 1 false 12) (.Q 6 (jl 16 1 false 15) (.P 7 (jb 17 .add 13 16) (.P 8 (ji 18 10 1 2 10) (.e 9 (jo' 1 18 17) .nil))))))))))
def Z077:IC:=(.draw Z0dc [9])
def Z09r:IC:=(.seq (.sq [jm 6 5,jb 7 .lss 6 (ci 10)] (.cond 7 .skip (.exit 0))) (.seq (.block 1 Z077) (.ops [jm 8 5,jb 9 .add 8 (ci 1),jm 5 9])))
def Z076:IC:=(.loop Z09r)
def d194:FnD:=⟨21,[.cell 4 10 true],(.sq [jx 2 88 0,jx 3 88 1,ja 4 88 [Z10]] (.seq (.sq [jm 5 (ci 0)] (.block 0 Z076)) (.sq [jl 19 10 true 2,jc 20 172 [19],js' 10 4 20] .ret)))⟩
theorem Z0kg:okF Tryz.prog 194 d194=true:=by kernel_rfl
def Z0db:Sch:=(.Q 0 (jl 5 10 true 2) (.Q 1 (jl 6 10 true 3) (.P 2 (jc 7 142 [6]) (.P 3 (jc 8 194 [5,7]) (.e 4 (jo' 10 4 8) .nil)))))
def d193:FnD:=⟨9,[.cell 4 10 true],(.sq [jx 2 88 0,jx 3 88 1,ja 4 88 [Z10]] (.seq (.draw Z0db [4]) .ret))⟩
theorem Z0kf:okF Tryz.prog 193 d193=true:=by kernel_rfl
def Z0c6:LJ:=[jm 10 4,jb 11 .quo 10 (ci 8),ji 12 32 1 1 11,jl 13 1 false 12,jm 14 4,jb 15 .rem 14 (ci 8),jb 16 .shr 13 15,jb 17 .and 16 (c8 1),jv 18 .u64 17,jm 5 18]
def Z0c7:Sch:=(.P 0 (jm 19 4) (.P 1 (jb 20 .quo 19 (ci 26)) (.P 2 (jm 21 4) (.P 3 (jb 22 .quo 21 (ci 26)) (.P 4 (ji 23 10 1 3 22) (.P 6 (jm 25 5) (.P 7 (jm 26 4) (.P 8 (jb 27 .rem 26 (ci 26)) (.P 9 (jb 28 .shl 25 27) (.Q 5 (jl 24 1 false 23) (.P 10 (jb 29 .add 24 28) (.P 11 (ji 30 10 1 3 20) (.e 12 (jo' 1 30 29) .nil)))))))))))))
def Z069:IC:=(.sq Z0c6 (.draw Z0c7 [12]))
def Z09a:IC:=(.seq (.sq [jm 6 4,jb 7 .lss 6 (ci 255)] (.cond 7 .skip (.exit 0))) (.seq (.block 1 Z069) (.ops [jm 8 4,jb 9 .add 8 (ci 1),jm 4 9])))
def Z068:IC:=(.loop Z09a)
def d139:FnD:=⟨33,[.cell 2 10 true],(.sq [jx 1 22 0,ja 2 88 [Z10]] (.sq [ja 3 88 [Z10]] (.seq (.sq [jm 4 (ci 0)] (.block 0 Z068)) (.sq [jl 31 10 true 3,jc 32 172 [31],js' 10 2 32] .ret))))⟩
theorem Z0jk:okF Tryz.prog 139 d139=true:=by kernel_rfl
def Z0dd:LJ:=[jd 1 [.ints .u8 32 (replicate 32 0)] [(0,1,(c8 163)),(1,1,(c8 120)),(2,1,(c8 89)),(3,1,(c8 19)),(4,1,(c8 202)),(5,1,(c8 77)),(6,1,(c8 235)),(7,1,(c8 117)),(8,1,(c8 171)),(9,1,(c8 216)),(10,1,(c8 65)),(11,1,(c8 65)),(12,1,(c8 77)),(13,1,(c8 10)),(14,1,(c8 112)),(15,1,(c8 0)),(16,1,(c8 152)),(17,1,(c8 232)),(18,1,(c8 121)),(19,1,(c8 119)),(20,1,(c8 121)),(21,1,(c8 64)),(22,1,(c8 199)),(23,1,(c8 140)),(24,1,(c8 115)),(25,1,(c8 254)),(26,1,(c8 111)),(27,1,(c8 43)),(28,1,(c8 238)),(29,1,(c8 108)),(30,1,(c8 3)),(31,1,(c8 82))],jc 2 139 [1],js' 10 0 2]
def d195:FnD:=⟨3,[.cell 0 10 true],(.sq [ja 0 88 [Z10]] (.sq Z0dd .ret))⟩
theorem Z0kh:okF Tryz.prog 195 d195=true:=by kernel_rfl
def Z0cc:Sch:=(.P 0 (jc 33 195 []) (.Q 1 (jl 34 10 true 7) (.Q 2 (jl 35 10 true 8) (.P 3 (jc 36 104 [34,35]) (.P 4 (jc 37 104 [33,36]) (.e 5 (oi 9 (.al 88 [Z10])) (.e 6 (jo' 10 9 37) .nil)))))))
def Z0cd:Sch:=(.P 0 (jf 44 0 2) (.P 2 (jf 46 10 3) (.P 5 (jf 49 10 2) (.P 7 (jf 51 0 3) (.Q 1 (jl 45 10 true 44) (.Q 3 (jl 47 10 true 46) (.P 4 (jc 48 104 [45,47]) (.Q 6 (jl 50 10 true 49) (.Q 8 (jl 52 10 true 51) (.P 9 (jc 53 104 [50,52]) (.P 10 (jc 54 194 [48,53]) (.e 11 (oi 12 (.al 88 [Z10])) (.e 12 (jo' 10 12 54) .nil)))))))))))))
def Z0ce:Sch:=(.Q 0 (jl 55 10 true 5) (.Q 1 (jl 56 10 true 10) (.P 2 (jc 57 104 [55,56]) (.Q 3 (jl 58 10 true 12) (.P 4 (jc 59 104 [57,58]) (.e 5 (oi 13 (.al 88 [Z10])) (.e 6 (jo' 10 13 59) .nil)))))))
def Z02o:Sch:=(.Q 0 (jl 60 10 true 5) (.Q 1 (jl 61 10 true 11) (.P 2 (jc 62 104 [60,61]) (.Q 3 (jl 63 10 true 8) (.Q 4 (jl 64 10 true 7) (.P 5 (jc 65 194 [63,64]) (.P 6 (jc 66 104 [62,65]) (.e 7 (oi 14 (.al 88 [Z10])) (.e 8 (jo' 10 14 66) .nil)))))))))
def Z02p:Sch:=(.Q 0 (jl 67 10 true 13) (.Q 1 (jl 68 10 true 14) (.Q 2 (jl 69 10 true 10) (.Q 3 (jl 70 10 true 11) (.P 4 (jc 71 104 [69,70]) (.P 5 (jd 72 [Z10,Z10,Z10] [(0,10,67),(10,10,68),(20,10,71)]) (.e 6 (jo' 30 4 72) .nil)))))))
def d146:FnD:=⟨73,[.cell 4 30 true],(.sq [jx 2 90 0,jx 3 90 1,ja 4 90 [Z10,Z10,Z10]] (.sq [jf 15 20 2,jl 16 10 true 15,jf 17 20 3,jl 18 10 true 17,jc 19 104 [16,18],ja 5 88 [Z10],js' 10 5 19] (.sq [jl 20 10 true 5,jl 21 10 true 5,jc 22 104 [20,21],ja 6 88 [Z10],js' 10 6 22] (.sq [jf 23 0 2,jl 24 10 true 23,jf 25 0 3,jl 26 10 true 25,jc 27 104 [24,26],ja 7 88 [Z10],js' 10 7 27] (.sq [jf 28 10 2,jl 29 10 true 28,jf 30 10 3,jl 31 10 true 30,jc 32 104 [29,31],ja 8 88 [Z10],js' 10 8 32] (.seq (.draw Z0cc [6]) (.sq [jl 38 10 true 6,jl 39 10 true 9,jc 40 193 [38,39],ja 10 88 [Z10],js' 10 10 40] (.sq [jl 41 10 true 6,jl 42 10 true 9,jc 43 194 [41,42],ja 11 88 [Z10],js' 10 11 43] (.seq (.draw Z0cd [12]) (.seq (.draw Z0ce [6]) (.seq (.draw Z02o [8]) (.seq (.draw Z02p [6]) .ret))))))))))))⟩
theorem Z0jp:okF Tryz.prog 146 d146=true:=by kernel_rfl
def Z0cv:LJ:=[jc 1 176 [(cu 0)],jc 2 176 [(cu 1)],jc 3 176 [(cu 1)],jd 4 [Z10,Z10,Z10] [(0,10,1),(10,10,2),(20,10,3)],js' 30 0 4]
def d174:FnD:=⟨5,[.cell 0 30 true],(.sq [ja 0 90 [Z10,Z10,Z10]] (.sq Z0cv .ret))⟩
theorem Z0k3:okF Tryz.prog 174 d174=true:=by kernel_rfl
def Z0cu:Sch:=(.P 0 (jm 11 4) (.P 1 (jm 12 4) (.P 2 (jb 13 .sub 12 (ci 1)) (.P 3 (ji 14 16 30 3 13) (.Q 4 (jl 15 30 true 14) (.Q 5 (jl 16 30 true 1) (.P 6 (jc 17 146 [15,16]) (.P 7 (ji 18 16 30 3 11) (.e 8 (jo' 30 18 17) .nil)))))))))
def Z06v:IC:=(.draw Z0cu [8])
def Z09l:IC:=(.seq (.sq [jm 7 4,jb 8 .lss 7 (ci 16)] (.cond 8 .skip (.exit 0))) (.seq (.block 1 Z06v) (.ops [jm 9 4,jb 10 .add 9 (ci 1),jm 4 10])))
def Z06u:IC:=(.loop Z09l)
def d173:FnD:=⟨20,[.cell 2 480 true],(.sq [jx 1 90 0,ja 2 206 [.rows 30 16 (fun _=>cells [Z10,Z10,Z10])]] (.sq [ja 3 206 [.rows 30 16 (fun _=>cells [Z10,Z10,Z10])]] (.sq [jc 5 174 [],ji 6 16 30 3 (ci 0),js' 30 6 5] (.seq (.sq [jm 4 (ci 1)] (.block 0 Z06u)) (.sq [jl 19 480 true 3,js' 480 2 19] .ret)))))⟩
theorem Z0k2:okF Tryz.prog 173 d173=true:=by kernel_rfl
def Z0cw:Sch:=(.Q 0 (jl 29 10 true 5) (.Q 1 (jl 30 10 true 5) (.P 2 (jc 31 194 [29,30]) (.Q 3 (jl 32 10 true 6) (.P 4 (jc 33 193 [31,32]) (.e 5 (oi 7 (.al 88 [Z10])) (.e 6 (jo' 10 7 33) .nil)))))))
def Z0cx:Sch:=(.Q 0 (jl 39 10 true 8) (.Q 1 (jl 40 10 true 8) (.P 2 (jc 41 194 [39,40]) (.Q 3 (jl 42 10 true 7) (.P 4 (jc 43 104 [41,42]) (.e 5 (oi 9 (.al 88 [Z10])) (.e 6 (jo' 10 9 43) .nil)))))))
def Z0cy:Sch:=(.Q 0 (jl 44 10 true 3) (.Q 1 (jl 45 10 true 4) (.P 2 (jc 46 194 [44,45]) (.Q 3 (jl 47 10 true 6) (.P 4 (jc 48 104 [46,47]) (.e 5 (oi 10 (.al 88 [Z10])) (.e 6 (jo' 10 10 48) .nil)))))))
def Z0cz:Sch:=(.Q 0 (jl 49 10 true 9) (.Q 1 (jl 50 10 true 10) (.Q 2 (jl 51 10 true 6) (.Q 3 (jl 52 10 true 7) (.P 4 (jc 53 104 [51,52]) (.P 5 (jd 54 [Z10,Z10,Z10] [(0,10,49),(10,10,50),(20,10,53)]) (.e 6 (jo' 30 2 54) .nil)))))))
def d175:FnD:=⟨55,[.cell 2 30 true],(.sq [jx 1 90 0,ja 2 90 [Z10,Z10,Z10]] (.sq [jf 11 0 1,jl 12 10 true 11,jf 13 0 1,jl 14 10 true 13,jc 15 104 [12,14],ja 3 88 [Z10],js' 10 3 15] (.sq [jf 16 10 1,jl 17 10 true 16,jf 18 10 1,jl 19 10 true 18,jc 20 104 [17,19],ja 4 88 [Z10],js' 10 4 20] (.sq [jf 21 20 1,jl 22 10 true 21,jf 23 20 1,jl 24 10 true 23,jc 25 104 [22,24],ja 5 88 [Z10],js' 10 5 25] (.sq [jl 26 10 true 4,jl 27 10 true 3,jc 28 193 [26,27],ja 6 88 [Z10],js' 10 6 28] (.seq (.draw Z0cw [6]) (.sq [jf 34 0 1,jl 35 10 true 34,jf 36 10 1,jl 37 10 true 36,jc 38 104 [35,37],ja 8 88 [Z10],js' 10 8 38] (.seq (.draw Z0cx [6]) (.seq (.draw Z0cy [6]) (.seq (.draw Z0cz [6]) .ret))))))))))⟩
theorem Z0k4:okF Tryz.prog 175 d175=true:=by kernel_rfl
def Z0be:Sch:=(.P 5 (jm 20 7) (.P 6 (ji 21 32 1 2 20) (.Q 0 (jl 15 30 true 6) (.P 1 (jc 16 175 [15]) (.P 2 (jc 17 175 [16]) (.P 3 (jc 18 175 [17]) (.P 4 (jc 19 175 [18]) (.Q 7 (jl 22 1 false 21) (.P 8 (jb 23 .quo 22 (c8 16)) (.P 9 (ji 24 16 30 5 23) (.Q 10 (jl 25 30 true 24) (.P 11 (jc 26 146 [19,25]) (.e 12 (jo' 30 6 26) .nil)))))))))))))
def Z0bf:Sch:=(.P 5 (jm 32 7) (.P 6 (ji 33 32 1 2 32) (.Q 0 (jl 27 30 true 6) (.P 1 (jc 28 175 [27]) (.P 2 (jc 29 175 [28]) (.P 3 (jc 30 175 [29]) (.P 4 (jc 31 175 [30]) (.Q 7 (jl 34 1 false 33) (.P 8 (jb 35 .rem 34 (c8 16)) (.P 9 (ji 36 16 30 5 35) (.Q 10 (jl 37 30 true 36) (.P 11 (jc 38 146 [31,37]) (.e 12 (jo' 30 6 38) .nil)))))))))))))
def Z05f:IC:=(.seq (.draw Z0be [12]) (.draw Z0bf [12]))
def Z08v:IC:=(.seq (.sq [jm 11 7,jb 12 .geq 11 (ci 0)] (.cond 12 .skip (.exit 0))) (.seq (.block 1 Z05f) (.ops [jm 13 7,jb 14 .sub 13 (ci 1),jm 7 14])))
def Z05e:IC:=(.loop Z08v)
def d106:FnD:=⟨40,[.cell 4 30 true],(.sq [jx 2 74 0,jx 3 90 1,ja 4 90 [Z10,Z10,Z10]] (.sq [jl 8 30 true 3,jc 9 173 [8],ja 5 206 [.rows 30 16 (fun _=>cells [Z10,Z10,Z10])],js' 480 5 9] (.sq [jc 10 174 [],ja 6 90 [Z10,Z10,Z10],js' 30 6 10] (.seq (.sq [jm 7 (ci 31)] (.block 0 Z05e)) (.sq [jl 39 30 true 6,js' 30 4 39] .ret)))))⟩
theorem Z0iz:okF Tryz.prog 106 d106=true:=by kernel_rfl
def d141:FnD:=⟨6,[.tmp 2],(.sq [jx 1 88 0,jm 2 (.const (.bool false))] (.sq [jl 3 10 true 1,jd 4 [Z10] [],oj 5 (.eqa false [(.i .u64,10)] 3 4),jm 2 5] .ret))⟩
theorem Z0jm:okF Tryz.prog 141 d141=true:=by kernel_rfl
def d217:FnD:=⟨8,[.cell 2 10 true],(.sq [jx 1 88 0,ja 2 88 [Z10]] (.seq (.sq [jl 3 10 true 1,jc 4 105 [3]] (.cond 4 (.sq [jl 5 10 true 1,jc 6 142 [5],js' 10 2 6] .ret) .skip)) (.sq [jl 7 10 true 1,js' 10 2 7] .ret)))⟩
theorem Z0l0:okF Tryz.prog 217 d217=true:=by kernel_rfl
def Z0de:Sch:=(.Q 0 (jl 13 10 true 2) (.Q 1 (jl 14 10 true 3) (.P 2 (jc 15 102 [14]) (.P 3 (jc 16 104 [13,15]) (.e 4 (oi 6 (.al 88 [Z10])) (.e 5 (jo' 10 6 16) .nil))))))
def Z0df:Sch:=(.P 1 (jc 18 171 [(c8 254),(c8 15)]) (.Q 0 (jl 17 10 true 6) (.P 2 (jc 19 170 [17,18]) (.e 3 (oi 7 (.al 88 [Z10])) (.e 4 (jo' 10 7 19) .nil)))))
def Z0dg:Sch:=(.Q 0 (jl 20 10 true 7) (.Q 1 (jl 21 10 true 7) (.P 2 (jc 22 104 [20,21]) (.Q 3 (jl 23 10 true 6) (.P 4 (oj 24 (.eqa false [(.i .u64,10)] 22 23)) .nil)))))
def Z0dh:Sch:=(.P 1 (jc 28 176 [(cu 2)]) (.P 2 (jc 29 171 [(c8 251),(c8 31)]) (.P 3 (jc 30 170 [28,29]) (.Q 0 (jl 27 10 true 7) (.P 4 (jc 31 104 [27,30]) (.e 5 (jo' 10 7 31) .nil))))))
def Z0di:Sch:=(.Q 0 (jl 32 10 true 7) (.Q 1 (jl 33 10 true 7) (.P 2 (jc 34 104 [32,33]) (.Q 3 (jl 35 10 true 6) (.P 4 (oj 36 (.eqa false [(.i .u64,10)] 34 35)) .nil)))))
def d196:FnD:=⟨40,[.cell 4 10 true,.tmp 5],(.sq [jx 2 88 0,jx 3 88 1,ja 4 88 [Z10],jm 5 (.const (.bool false))] (.seq (.sq [jl 8 10 true 3,jc 9 141 [8]] (.cond 9 (.sq [jd 10 [Z10] [],jl 11 10 true 2,jc 12 141 [11],js' 10 4 10,jm 5 12] .ret) .skip)) (.seq (.draw Z0de [5]) (.seq (.draw Z0df [4]) (.seq (.seq (.draw Z0dg []) (.cond 24 (.sq [jl 25 10 true 7,jc 26 217 [25],js' 10 4 26,jm 5 (.const (.bool true))] .ret) .skip)) (.seq (.draw Z0dh [5]) (.seq (.seq (.draw Z0di []) (.cond 36 (.sq [jl 37 10 true 7,jc 38 217 [37],js' 10 4 38,jm 5 (.const (.bool true))] .ret) .skip)) (.sq [jd 39 [Z10] [],js' 10 4 39,jm 5 (.const (.bool false))] .ret))))))))⟩
theorem Z0ki:okF Tryz.prog 196 d196=true:=by kernel_rfl
def Z0c8:Sch:=(.P 1 (jc 11 176 [(cu 1)]) (.Q 0 (jl 10 10 true 4) (.P 2 (jc 12 193 [10,11]) (.e 3 (oi 5 (.al 88 [Z10])) (.e 4 (jo' 10 5 12) .nil)))))
def Z0c9:Sch:=(.P 0 (jc 13 195 []) (.Q 1 (jl 14 10 true 4) (.P 2 (jc 15 104 [13,14]) (.P 3 (jc 16 176 [(cu 1)]) (.P 4 (jc 17 194 [15,16]) (.e 5 (oi 6 (.al 88 [Z10])) (.e 6 (jo' 10 6 17) .nil)))))))
def d140:FnD:=⟨23,[.cell 2 10 true,.tmp 3],(.sq [jx 1 88 0,ja 2 88 [Z10],jm 3 (.const (.bool false))] (.sq [jl 7 10 true 1,jl 8 10 true 1,jc 9 104 [7,8],ja 4 88 [Z10],js' 10 4 9] (.seq (.draw Z0c8 [4]) (.seq (.draw Z0c9 [6]) (.sq [jl 18 10 true 5,jl 19 10 true 6,jc 20 196 [18,19],je 21 20 0,je 22 20 1,js' 10 2 21,jm 3 22] .ret)))))⟩
theorem Z0jl:okF Tryz.prog 140 d140=true:=by kernel_rfl
def Z0cb:Sch:=(.P 2 (jc 7 176 [(cu 1)]) (.Q 0 (jl 5 10 true 2) (.Q 1 (jl 6 10 true 3) (.P 3 (jd 8 [Z10,Z10,Z10] [(0,10,5),(10,10,6),(20,10,7)]) (.e 4 (jo' 30 4 8) .nil)))))
def d143:FnD:=⟨9,[.cell 4 30 true],(.sq [jx 2 88 0,jx 3 88 1,ja 4 90 [Z10,Z10,Z10]] (.seq (.draw Z0cb [4]) .ret))⟩
theorem Z0jo:okF Tryz.prog 143 d143=true:=by kernel_rfl
def d107:FnD:=⟨16,[.cell 0 30 true],(.sq [ja 0 90 [Z10,Z10,Z10]] (.sq [jc 4 176 [(cu 4)],jc 5 176 [(cu 5)],jc 6 102 [5],jc 7 104 [4,6],ja 1 88 [Z10],js' 10 1 7] (.sq [jl 9 10 true 1,jc 10 140 [9],jm 8 10,je 11 8 0,je 12 8 1,ja 2 88 [Z10],js' 10 2 11,jm 3 12] (.sq [jl 13 10 true 2,jl 14 10 true 1,jc 15 143 [13,14],js' 30 0 15] .ret))))⟩
theorem Z0j0:okF Tryz.prog 107 d107=true:=by kernel_rfl
def Z0n1:Sch:=(.P 1 (jc 4 107 []) (.Q 0 (jl 3 32 true 1) (.P 2 (jc 5 106 [3,4]) (.e 3 (jo' 30 2 5) .nil))))
def d55:FnD:=⟨6,[.cell 2 30 true],(.sq [jx 1 74 0,ja 2 90 [Z10,Z10,Z10]] (.seq (.draw Z0n1 [3]) .ret))⟩
theorem ok55:okF Tryz.prog 55 d55=true:=by kernel_rfl
def Z0he:IC:=(.sq [jm 11 6,jm 12 6,ji 13 64 1 2 12,jl 14 1 false 13,ji 15 32 1 5 11,js' 1 15 14] (.sq [jm 16 1] (.cond 16 (.ops [jm 17 6,jm 18 6,jb 19 .add (ci 32) 18,ji 20 64 1 2 19,jl 21 1 false 20,ji 22 32 1 5 17,js' 1 22 21]) .skip)))
def Z0id:IC:=(.seq (.sq [jm 7 6,jb 8 .lss 7 (ci 32)] (.cond 8 .skip (.exit 0))) (.seq (.block 1 Z0he) (.ops [jm 9 6,jb 10 .add 9 (ci 1),jm 6 10])))
def Z0hd:IC:=(.loop Z0id)
def d57:FnD:=⟨24,[.cell 4 32 true],(.sq [jx 2 94 0,ja 4 22 [.ints .u8 32 (replicate 32 0)]] (.sq [ja 5 22 [.ints .u8 32 (replicate 32 0)]] (.seq (.sq [jm 6 (ci 0)] (.block 0 Z0hd)) (.sq [jl 23 32 true 5,js' 32 4 23] .ret))))⟩
theorem ok57:okF Tryz.prog 57 d57=true:=by kernel_rfl
def Z05h:IC:=(.ops [jm 9 4,jm 10 4,ji 11 32 1 1 10,jl 12 1 false 11,ji 13 32 1 3 9,js' 1 13 12])
def Z08w:IC:=(.seq (.sq [jm 5 4,jb 6 .lss 5 (ci 32)] (.cond 6 .skip (.exit 0))) (.seq (.block 1 Z05h) (.ops [jm 7 4,jb 8 .add 7 (ci 1),jm 4 8])))
def Z05g:IC:=(.loop Z08w)
def Z0bg:LJ:=[ji 14 32 1 3 (ci 0),jl 15 1 false 14,ji 16 32 1 3 (ci 0),jl 17 1 false 16,jb 18 .rem 17 (c8 8),jb 19 .sub 15 18,ji 20 32 1 3 (ci 0),js' 1 20 19]
def Z0bh:LJ:=[ji 21 32 1 3 (ci 31),jl 22 1 false 21,jb 23 .rem 22 (c8 64),jb 24 .add 23 (c8 64),ji 25 32 1 3 (ci 31),js' 1 25 24]
def d108:FnD:=⟨27,[.cell 2 32 true],(.sq [jx 1 22 0,ja 2 74 [.ints .u8 32 (replicate 32 0)]] (.sq [ja 3 74 [.ints .u8 32 (replicate 32 0)]] (.seq (.sq [jm 4 (ci 0)] (.block 0 Z05g)) (.sq Z0bg (.sq Z0bh (.sq [jl 26 32 true 3,js' 32 2 26] .ret))))))⟩
theorem Z0j1:okF Tryz.prog 108 d108=true:=by kernel_rfl
def d56:FnD:=⟨9,[.cell 2 32 true],(.sq [jx 1 23 0,ja 2 74 [.ints .u8 32 (replicate 32 0)]] (.sq [oj 4 (.sla 32 1 1 none none none),jc 5 58 [4],ja 3 94 [.ints .u8 64 (replicate 64 0)],js' 64 3 5] (.sq [jl 6 64 true 3,jc 7 57 [6,(.const (.bool false))],jc 8 108 [7],js' 32 2 8] .ret)))⟩
theorem ok56:okF Tryz.prog 56 d56=true:=by kernel_rfl
def d13:FnD:=⟨7,[.cell 2 32 true],(.sq [jx 1 23 0,ja 2 29 [.ints .u8 32 (replicate 32 0)]] (.sq [jl 3 32 true 1,jc 4 56 [3],jc 5 55 [4],jc 6 54 [5],js' 32 2 6] .ret))⟩
theorem ok13:okF Tryz.prog 13 d13=true:=by kernel_rfl
def Z0n9:LJ:=[jl 8 37 true 2,jm 9 1,jc 10 20 [8,9],jm 7 10,je 11 7 0,je 12 7 1,ja 5 23 [.ints .u8 32 (replicate 32 0)],js' 32 5 11,jm 6 12]
def d65:FnD:=⟨15,[.cell 4 32 true],(.sq [jx 2 34 0,ja 4 29 [.ints .u8 32 (replicate 32 0)]] (.sq Z0n9 (.sq [jl 13 32 true 5,jc 14 13 [13],js' 32 4 14] .ret)))⟩
theorem ok65:okF Tryz.prog 65 d65=true:=by kernel_rfl
def Z0ml:LJ:=[jl 13 37 true 1,jc 14 65 [13,(ci 0)],jd 15 [.ints .u8 32 (replicate 32 0),.one (.slice none 0 0)] [(0,32,14)],ja 5 42 [.ints .u8 32 (replicate 32 0),.one (.slice none 0 0)],js' 33 5 15]
def Z0mm:Sch:=(.P 0 (jf 22 32 5) (.P 3 (jm 25 6) (.Q 1 (jl 23 1 false 22) (.Q 2 (jl 24 37 true 1) (.P 4 (jc 26 65 [24,25]) (.e 5 (oi 27 (.bs 29 1 32 [.ints .u8 32 (replicate 32 0)] [(0,32,26)])) (.e 6 (oi 28 (.app 29 32 32 [.ints .u8 32 (replicate 32 0)] 23 27)) (.P 7 (jf 29 32 5) (.e 8 (jo' 1 29 28) .nil)))))))))
def Z0h4:IC:=(.draw Z0mm [8,6])
def Z0i8:IC:=(.seq (.sq [jm 16 6,jf 17 0 1,jl 18 1 false 17,jb 19 .leq 16 18] (.cond 19 .skip (.exit 0))) (.seq (.block 1 Z0h4) (.ops [jm 20 6,jb 21 .add 20 (ci 1),jm 6 21])))
def Z0h3:IC:=(.loop Z0i8)
def d22:FnD:=⟨31,[.cell 2 33 true,.tmp 3],(.sq [jx 1 34 0,ja 2 42 [.ints .u8 32 (replicate 32 0),.one (.slice none 0 0)],jm 3 (ci 0)] (.sq [jl 7 37 true 1,jc 8 18 [7],jm 4 8] (.seq (.sq [jm 9 4,jb 10 .neq 9 (ci 0)] (.cond 10 (.sq [jd 11 [.ints .u8 32 (replicate 32 0),.one (.slice none 0 0)] [],jm 12 4,js' 33 2 11,jm 3 12] .ret) .skip)) (.sq Z0ml (.seq (.sq [jm 6 (ci 1)] (.block 0 Z0h3)) (.sq [jl 30 33 true 5,js' 33 2 30,jm 3 (ci 0)] .ret))))))⟩
theorem ok22:okF Tryz.prog 22 d22=true:=by kernel_rfl
def Z0mn:Sch:=(.P 0 (jm 17 0) (.P 1 (jm 18 5) (.P 2 (ji' 19 32 17 18) (.P 4 (jm 21 1) (.P 5 (jm 22 5) (.P 6 (ji' 23 32 21 22) (.Q 3 (jl 20 32 true 19) (.Q 7 (jl 24 32 true 23) (.P 8 (oj 25 (.eqa true [(.i .u8,32)] 20 24)) .nil)))))))))
def Z0h6:IC:=(.seq (.draw Z0mn []) (.cond 25 (.sq [jm 4 (.const (.bool false))] .ret) .skip))
def Z0i9:IC:=(.seq (.sq [jm 11 5,jm 12 0,jn' 13 12,jb 14 .lss 11 13] (.cond 14 .skip (.exit 0))) (.seq (.block 1 Z0h6) (.ops [jm 15 5,jb 16 .add 15 (ci 1),jm 5 16])))
def Z0h5:IC:=(.loop Z0i9)
def d23:FnD:=⟨26,[.tmp 4],(.sq [jm 4 (.const (.bool false))] (.seq (.sq [jm 6 0,jn' 7 6,jm 8 1,jn' 9 8,jb 10 .neq 7 9] (.cond 10 (.sq [jm 4 (.const (.bool false))] .ret) .skip)) (.seq (.sq [jm 5 (ci 0)] (.block 0 Z0h5)) (.sq [jm 4 (.const (.bool true))] .ret))))⟩
theorem ok23:okF Tryz.prog 23 d23=true:=by kernel_rfl
def Z0mo:LJ:=[jm 16 5,jd 17 [.ints .u8 32 (replicate 32 0)] [(0,1,(c8 21))],oj 18 (.bs 29 1 32 [.ints .u8 32 (replicate 32 0)] [(0,32,17)]),oj 19 (.app 29 32 32 [.ints .u8 32 (replicate 32 0)] 16 18),jm 5 19]
def Z0h8:IC:=(.ops Z0mo)
def Z0ia:IC:=(.seq (.sq [jm 12 7,jb 13 .lss 12 (ci 64)] (.cond 13 .skip (.exit 0))) (.seq (.block 1 Z0h8) (.ops [jm 14 7,jb 15 .add 14 (ci 1),jm 7 15])))
def Z0h7:IC:=(.loop Z0ia)
def Z0ez:LJ:=[jm 24 6,jd 25 [.ints .u8 32 (replicate 32 0)] [(0,1,(c8 22))],oj 26 (.bs 29 1 32 [.ints .u8 32 (replicate 32 0)] [(0,32,25)]),oj 27 (.app 29 32 32 [.ints .u8 32 (replicate 32 0)] 24 26),jm 6 27]
def Z0ha:IC:=(.ops Z0ez)
def Z0ib:IC:=(.seq (.sq [jm 20 8,jb 21 .lss 20 (ci 64)] (.cond 21 .skip (.exit 2))) (.seq (.block 3 Z0ha) (.ops [jm 22 8,jb 23 .add 22 (ci 1),jm 8 23])))
def Z0h9:IC:=(.loop Z0ib)
def Z0f0:LJ:=[jm 36 5,jm 37 9,ji' 38 32 36 37,jl 39 32 true 38,jd 40 [.ints .u8 32 (replicate 32 0)] [(0,1,(c8 21))],oj 41 (.eqa true [(.i .u8,32)] 39 40)]
def Z0hc:IC:=(.sq Z0f0 (.cond 41 (.sq [jm 4 (.const (.bool false))] .ret) .skip))
def Z0ic:IC:=(.seq (.sq [jm 30 9,jm 31 5,jn' 32 31,jb 33 .lss 30 32] (.cond 33 .skip (.exit 4))) (.seq (.block 5 Z0hc) (.ops [jm 34 9,jb 35 .add 34 (ci 1),jm 9 35])))
def Z0hb:IC:=(.loop Z0ic)
def d24:FnD:=⟨48,[.tmp 4],(.sq [jm 4 (.const (.bool false))] (.sq [jm 10 0,jm 5 10] (.sq [jm 11 1,jm 6 11] (.seq (.sq [jm 7 (ci 0)] (.block 0 Z0h7)) (.seq (.sq [jm 8 (ci 0)] (.block 2 Z0h9)) (.seq (.sq [jm 28 0,jn' 29 28,jm 9 29] (.block 4 Z0hb)) (.sq [jm 42 6,jn' 43 42,jm 44 1,jn' 45 44,jb 46 .add 45 (ci 64),jb 47 .eql 43 46,jm 4 47] .ret)))))))⟩
theorem ok24:okF Tryz.prog 24 d24=true:=by kernel_rfl
def r4_1:Sch:=(.Q 0 (jl 25 37 true 2) (.P 1 (jc 26 17 [25]) (.Q 2 (jl 27 37 true 2) (.P 3 (jc 28 18 [27]) (.P 4 (jb 29 .neq 26 28) .nil)))))
def r4_3:LJ:=[jl 31 37 true 2,jm 32 1,jc 33 19 [31,32],jm 30 33,je 34 30 0,je 35 30 1,ja 5 23 [.ints .u8 32 (replicate 32 0)],js' 32 5 34,jm 6 35]
def r4_4:LJ:=[jl 37 37 true 2,jm 38 1,jc 39 20 [37,38],jm 36 39,je 40 36 0,je 41 36 1,ja 7 23 [.ints .u8 32 (replicate 32 0)],js' 32 7 40,jm 8 41]
def r4_5:LJ:=[jl 43 37 true 2,jc 44 21 [43],jm 42 44,je 45 42 0,je 46 42 1,ja 9 42 [.ints .u8 32 (replicate 32 0),.one (.slice none 0 0)],js' 33 9 45,jm 10 46]
def r4_6:LJ:=[jl 48 37 true 2,jc 49 22 [48],jm 47 49,je 50 47 0,je 51 47 1,ja 11 42 [.ints .u8 32 (replicate 32 0),.one (.slice none 0 0)],js' 33 11 50,jm 12 51]
def r4_7:LJ:=[jl 52 32 true 5,jl 53 32 true 7,oj 54 (.eqa true [(.i .u8,32)] 52 53),jm 55 54,.lg true 55 59 none [.op ⟨some 56,(some (55,false)),.mv 6⟩,.op ⟨some 57,(some (55,false)),.mv 8⟩,.op ⟨some 58,(some (55,false)),.beq true 56 57⟩] 58,jm 60 59,.lg true 60 64 none [.op ⟨some 61,(some (60,false)),.mv 10⟩,.op ⟨some 62,(some (60,false)),.mv 12⟩,.op ⟨some 63,(some (60,false)),.bin .neq 61 62⟩] 63,jm 65 64,.lg true 65 71 none [.op ⟨some 66,(some (65,false)),.fa 0 9⟩,.op ⟨some 67,(some (65,false)),.ld 32 true 66⟩,.op ⟨some 68,(some (65,false)),.fa 0 11⟩,.op ⟨some 69,(some (65,false)),.ld 32 true 68⟩,.op ⟨some 70,(some (65,false)),.eqa true [(.i .u8,32)] 67 69⟩] 70,jm 72 71,.lg true 72 79 none [.op ⟨some 73,(some (72,false)),.fa 32 9⟩,.op ⟨some 74,(some (72,false)),.ld 1 false 73⟩,.op ⟨some 75,(some (72,false)),.fa 32 11⟩,.op ⟨some 76,(some (72,false)),.ld 1 false 75⟩,.op ⟨some 77,(some (72,false)),.call 23 [74,76]⟩,.op ⟨some 78,(some (72,false)),.un .not 77⟩] 78]
def r4_9:LJ:=[jl 81 37 true 2,jc 82 21 [81],jm 80 82,je 83 80 0,je 84 80 1,ja 13 42 [.ints .u8 32 (replicate 32 0),.one (.slice none 0 0)],js' 33 13 83,jm 14 84]
def Z0mq:LJ:=[jl 85 37 true 2,ja 15 34 [.one (.int .i64 0),.one (.int .i64 0),.one (.int .i64 0),.one (.int .i64 0),.one (.int .i64 0),.ints .u8 32 (replicate 32 0)],js' 37 15 85]
def Z0mr:LJ:=[jf 86 5 15,ji 87 32 1 86 (ci 0),jl 88 1 false 87,jb 89 .add 88 (c8 1),jf 90 5 15,ji 91 32 1 90 (ci 0),js' 1 91 89]
def Z0ms:LJ:=[jl 93 37 true 15,jc 94 21 [93],jm 92 94,je 95 92 0,je 96 92 1,ja 16 42 [.ints .u8 32 (replicate 32 0),.one (.slice none 0 0)],js' 33 16 95,jm 17 96]
def Z0mt:LJ:=[jl 98 37 true 15,jc 99 22 [98],jm 97 99,je 100 97 0,je 101 97 1,ja 18 42 [.ints .u8 32 (replicate 32 0),.one (.slice none 0 0)],js' 33 18 100,jm 19 101]
def Z0mu:LJ:=[jf 109 32 9,jl 110 1 false 109,jm 111 20,jd 112 [.ints .u8 32 (replicate 32 0)] [(0,1,(c8 9))],ji' 113 32 110 111,js' 32 113 112]
def k4_1:IC:=(.ops Z0mu)
def l4_1:IC:=(.seq (.sq [jm 102 20,jf 103 32 9,jl 104 1 false 103,jn' 105 104,jb 106 .lss 102 105] (.cond 106 .skip (.exit 0))) (.seq (.block 1 k4_1) (.ops [jm 107 20,jb 108 .add 107 (ci 1),jm 20 108])))
def k4_0:IC:=(.loop l4_1)
def Z0mv:LJ:=[jm 120 21,jd 121 [.ints .u8 32 (replicate 32 0)] [(0,1,(c8 8))],oj 122 (.bs 29 1 32 [.ints .u8 32 (replicate 32 0)] [(0,32,121)]),oj 123 (.app 29 32 32 [.ints .u8 32 (replicate 32 0)] 120 122),jm 21 123]
def k4_3:IC:=(.ops Z0mv)
def l4_2:IC:=(.seq (.sq [jm 116 22,jb 117 .lss 116 (ci 32)] (.cond 117 .skip (.exit 2))) (.seq (.block 3 k4_3) (.ops [jm 118 22,jb 119 .add 118 (ci 1),jm 22 119])))
def k4_2:IC:=(.loop l4_2)
def Z0mw:LJ:=[jl 125 37 true 2,jc 126 21 [125],jm 124 126,je 127 124 0,je 128 124 1,ja 23 42 [.ints .u8 32 (replicate 32 0),.one (.slice none 0 0)],js' 33 23 127,jm 24 128]
def Z0mx:LJ:=[jm 129 21,jn' 130 129,jf 131 32 11,jl 132 1 false 131,jn' 133 132,jb 134 .add 133 (ci 32),jb 135 .eql 130 134,jm 136 135,.lg false 136 142 none [.op ⟨some 137,(some (136,true)),.fa 32 13⟩,.op ⟨some 138,(some (136,true)),.ld 1 false 137⟩,.op ⟨some 139,(some (136,true)),.fa 32 11⟩,.op ⟨some 140,(some (136,true)),.ld 1 false 139⟩,.op ⟨some 141,(some (136,true)),.call 23 [138,140]⟩] 141,jm 143 142,.lg false 143 149 none [.op ⟨some 144,(some (143,true)),.fa 32 16⟩,.op ⟨some 145,(some (143,true)),.ld 1 false 144⟩,.op ⟨some 146,(some (143,true)),.fa 32 18⟩,.op ⟨some 147,(some (143,true)),.ld 1 false 146⟩,.op ⟨some 148,(some (143,true)),.call 23 [145,147]⟩] 148,jm 150 149,.lg false 150 156 none [.op ⟨some 151,(some (150,true)),.fa 32 23⟩,.op ⟨some 152,(some (150,true)),.ld 1 false 151⟩,.op ⟨some 153,(some (150,true)),.fa 32 11⟩,.op ⟨some 154,(some (150,true)),.ld 1 false 153⟩,.op ⟨some 155,(some (150,true)),.call 23 [152,154]⟩] 155,jm 157 156,.op ⟨some 158,(some (157,true)),.fa 32 13⟩,.op ⟨some 159,(some (157,true)),.ld 1 false 158⟩,.op ⟨some 160,(some (157,true)),.fa 32 16⟩,.op ⟨some 161,(some (157,true)),.ld 1 false 160⟩,.op ⟨some 162,(some (157,true)),.call 24 [159,161]⟩,oj 163 (.pick 157 162 (.const (.bool false))),jm 164 163,.op ⟨some 165,(some (164,true)),.fa 32 16⟩,.op ⟨some 166,(some (164,true)),.ld 1 false 165⟩,.op ⟨some 167,(some (164,true)),.fa 32 23⟩,.op ⟨some 168,(some (164,true)),.ld 1 false 167⟩,.op ⟨some 169,(some (164,true)),.call 24 [166,168]⟩,oj 170 (.pick 164 169 (.const (.bool false))),jm 4 170]
def d4:FnD:=⟨171,[.tmp 4],(.sq [jx 2 34 0,jm 4 (.const (.bool false))] (.seq (.seq (.draw r4_1 []) (.cond 29 (.sq [jm 4 (.const (.bool false))] .ret) .skip)) (.sq r4_3 (.sq r4_4 (.sq r4_5 (.sq r4_6 (.seq (.sq r4_7 (.cond 79 (.sq [jm 4 (.const (.bool false))] .ret) .skip)) (.sq r4_9 (.sq Z0mq (.sq Z0mr (.sq Z0ms (.sq Z0mt (.seq (.sq [jm 20 (ci 0)] (.block 0 k4_0)) (.sq [jf 114 32 9,jl 115 1 false 114,jm 21 115] (.seq (.sq [jm 22 (ci 0)] (.block 2 k4_2)) (.sq Z0mw (.sq Z0mx .ret)))))))))))))))))⟩
theorem ok4:okF Tryz.prog 4 d4=true:=by kernel_rfl
def d215:FnD:=⟨4,[.tmp 2],(.sq [jx 1 23 0,jm 2 (.const (.slice none 0 0))] (.sq [oj 3 (.sla 32 1 1 none none none),jm 2 3] .ret))⟩
theorem Z0ky:okF Tryz.prog 215 d215=true:=by kernel_rfl
def Z07n:IC:=(.sq [jm 16 14,jm 6 16] (.ops [jm 17 5,jm 18 6,ji' 19 1 17 18,jl 20 1 false 19,jm 21 0,jb 22 .xor 20 21,ji' 23 1 17 18,js' 1 23 22]))
def Z09z:IC:=(.sq [jb 15 .lss 14 13] (.seq (.cond 15 .skip (.exit 0)) (.seq (.block 1 Z07n) (.ops [jb 24 .add 14 (ci 1),jm 14 24]))))
def Z07m:IC:=(.loop Z09z)
def d222:FnD:=⟨26,[.tmp 4],(.sq [jm 4 (.const (.slice none 0 0))] (.sq [jl 7 1 false 1,oj 8 (.mks 5 1 [.one (.int .u8 0)] 7 7),jm 5 8] (.sq [jm 9 5,jl 10 1 false 2,oj 11 (.cpy 1 9 10)] (.seq (.sq [jm 12 5,jn' 13 12,jm 14 (ci 0)] (.block 0 Z07m)) (.sq [jm 25 5,jm 4 25] .ret)))))⟩
theorem Z0l5:okF Tryz.prog 222 d222=true:=by kernel_rfl
def Z0dy:Sch:=(.Q 0 (jl 14 1 false 3) (.Q 1 (jl 15 1 false 4) (.Q 2 (jl 16 1 false 5) (.e 3 (oi 17 (.cv 15 [16])) (.e 4 (oi 18 (.cv 14 [17])) (.e 5 (jo' 1 5 18) .nil))))))
def Z0dz:Sch:=(.P 1 (jm 21 8) (.P 3 (jm 23 1) (.Q 0 (jl 20 1 false 4) (.two 2 (oi 22 (.cv 21 [(c8 54)])) (.two 4 (oi 24 (.bs 24 2 1 [.one (.slice none 0 0),.one (.slice none 0 0)] [(0,1,22),(1,1,23)])) (.two 5 (oi 25 (.call 117 [24])) (.two 6 (oi 26 (.cv 20 [25])) (.e 7 (oi 9 (.al 23 [.ints .u8 32 (replicate 32 0)])) (.e 8 (jo' 32 9 26) .nil))
 7 ⟨some 9,none,.al 23 [.ints .u8 32 (replicate 32 0)]⟩ (.e 6 (oi 26 (.cv 20 [25])) (.e 8 (jo' 32 9 26) .nil)))
 7 ⟨some 9,none,.al 23 [.ints .u8 32 (replicate 32 0)]⟩ (.e 5 (oi 25 (.call 117 [24])) (.e 6 (oi 26 (.cv 20 [25])) (.e 8 (jo' 32 9 26) .nil))))
 7 ⟨some 9,none,.al 23 [.ints .u8 32 (replicate 32 0)]⟩ (.e 4 (oi 24 (.bs 24 2 1 [.one (.slice none 0 0),.one (.slice none 0 0)] [(0,1,22),(1,1,23)])) (.e 5 (oi 25 (.call 117 [24])) (.e 6 (oi 26 (.cv 20 [25])) (.e 8 (jo' 32 9 26) .nil)))))
 7 ⟨some 9,none,.al 23 [.ints .u8 32 (replicate 32 0)]⟩ (.e 2 (oi 22 (.cv 21 [(c8 54)])) (.e 4 (oi 24 (.bs 24 2 1 [.one (.slice none 0 0),.one (.slice none 0 0)] [(0,1,22),(1,1,23)])) (.e 5 (oi 25 (.call 117 [24])) (.e 6 (oi 26 (.cv 20 [25])) (.e 8 (jo' 32 9 26) .nil)))))))))
def Z0e0:Sch:=(.P 1 (jm 28 8) (.Q 0 (jl 27 1 false 4) (.Q 3 (jl 30 1 false 3) (.Q 4 (jl 31 32 true 9) (.e 2 (oi 29 (.cv 28 [(c8 92)])) (.e 5 (oi 32 (.cv 30 [31])) (.e 6 (oi 33 (.bs 24 2 1 [.one (.slice none 0 0),.one (.slice none 0 0)] [(0,1,29),(1,1,32)])) (.e 7 (oi 34 (.call 117 [33])) (.e 8 (oi 35 (.cv 27 [34])) (.e 9 (jo' 32 7 35) .nil))))))))))
def d221:FnD:=⟨36,[.cell 7 32 true],(.sq [jx 5 24 0,ja 7 23 [.ints .u8 32 (replicate 32 0)]] (.seq (.sq [jl 10 1 false 5,jn' 11 10,jl 12 1 false 2,jb 13 .gtr 11 12] (.cond 13 (.draw Z0dy [5]) .skip)) (.sq [oj 19 (.mf 222 [2,5]),jm 8 19] (.seq (.draw Z0dz [8]) (.seq (.draw Z0e0 [9]) .ret)))))⟩
theorem Z0l4:okF Tryz.prog 221 d221=true:=by kernel_rfl
theorem mo:Tryz.prog.follows .mixedOrders=true:=by kernel_rfl
theorem Zm9:ExtF Tryz.prog 158 add64Entry:=⟨Tryz.f158,Tryz.func158,by kernel_rfl,by kernel_rfl,by kernel_rfl,by kernel_rfl⟩
end Go.Proofs.YtiflckckekjbnaaGreatDoor
namespace Go.Proofs.YtiflckckekjbnaaGreatDoor
open Go Go.Sx Go.RowKit
set_option linter.all false
set_option maxHeartbeats 400000
set_option maxRecDepth 100000
theorem Zkt {W:World} {n:Int} {f g:FuncId} :
  Calls Tryz.prog 213 [.int .i64 n,.func (.func f) #[] #[],.func (.func g) #[] #[]].toArray W (Zd9 W [] (fun v Ms=>∃ (b1:Nat) (T1:TypeId) (b2:Nat) (T2:TypeId) (b3:Nat) (T3:TypeId),v = .func (.func 221) #[] #[.pointer (some ⟨b1,0,none⟩),.pointer (some ⟨b2,0,none⟩),.pointer (some ⟨b3,0,none⟩)]/\Ms = [.one (ck b1 T1 [.one (.int .i64 (n))]),.one (ck b2 T2 [.one (.func (.func g) #[] #[])]),.one (ck b3 T3 [.one (.func (.func f) #[] #[])])])):=by
 refine Z0e mo Z0kw rfl (Zgt _) ?_
 refine Z0<|Z2<|Zd (Zqm rfl rfl fun b1 hb1=>Zd (Zqm rfl rfl fun b2 hb2=>Zd (Zqm rfl rfl fun b3 hb3=>Z4 _ (Z0j rfl)<|Z1<|Z0<|Z2<|Z4 _ (q_mf rfl)<|Z4 _ (Z0j rfl)<|Z1<|Zj ?_)))
 exact ⟨_,_,.cons (.tmp rfl) .nil,.one (.there (.there .here)) (.one .here (.one .here .nil)),⟨_,rfl,b1,_,b3,_,b2,_,rfl,rfl⟩⟩
end Go.Proofs.YtiflckckekjbnaaGreatDoor
namespace Go.Proofs.YtiflckckekjbnaaGreatDoor
open Go Go.Sx Go.RowKit
open List (replicate)
open Go.IntKind (wrap)
set_option linter.all false
set_option maxHeartbeats 400000
set_option maxRecDepth 100000
def ng:Nat:=7
def G_rfirst:LI:=[7640891576956012808,13503953896175478587,4354685564936845355,11912009170470909681,5840696475078001361,11170449401992604703,2270897969802886507,6620516959819538809]
def G_first:LI:=[7640891576956012808,13503953896175478587,4354685564936845355,11912009170470909681,5840696475078001361,11170449401992604703,2270897969802886507,6620516959819538809]
def G_rtable:LI:=[4794697086780616226,8158064640168781261,13096744586834688815,16840607885511220156,4131703408338449720,6480981068601479193,10538285296894168987,12329834152419229976,15566598209576043074,1334009975649890238,2608012711638119052,6128411473006802146,8268148722764581231,9286055187155687089,11230858885718282805,13951009754708518548,16472876342353939154,17275323862435702243,1135362057144423861,2597628984639134821,3308224258029322869,5365058923640841347,6679025012923562964,8573033837759648693,10970295158949994411,12119686244451234320,12683024718118986047,13788192230050041572,14330467153632333762,15395433587784984357,489312712824947311,1452737877330783856,2861767655752347644,3322285676063803686,5560940570517711597,5996557281743188959,7280758554555802590,8532644243296465576,9350256976987008742,10552545826968843579,11727347734174303076,12113106623233404929,14000437183269869457,14369950271660146224,15101387698204529176,15463397548674623760,17586052441742319658,1182934255886127544,1847814050463011016,2177327727835720531,2830643537854262169,3796741975233480872,4115178125766777443,5681478168544905931,6601373596472566643,7507060721942968483,8399075790359081724,8693463985226723168,9568029438360202098,10144078919501101548,10430055236837252648,11840083180663258601,13761210420658862357,14299343276471374635,14566680578165727644,15097957966210449927,16922976911328602910,17689382322260857208,500013540394364858,748580250866718886,1242879168328830382,1977374033974150939,2944078676154940804,3659926193048069267,4368137639120453308,4836135668995329356,5532061633213252278,6448918945643986474,6902733635092675308,7801388544844847127]
def G_table:LI:=[4794697086780616226,8158064640168781261,13096744586834688815,16840607885511220156,4131703408338449720,6480981068601479193,10538285296894168987,12329834152419229976,15566598209576043074,1334009975649890238,2608012711638119052,6128411473006802146,8268148722764581231,9286055187155687089,11230858885718282805,13951009754708518548,16472876342353939154,17275323862435702243,1135362057144423861,2597628984639134821,3308224258029322869,5365058923640841347,6679025012923562964,8573033837759648693,10970295158949994411,12119686244451234320,12683024718118986047,13788192230050041572,14330467153632333762,15395433587784984357,489312712824947311,1452737877330783856,2861767655752347644,3322285676063803686,5560940570517711597,5996557281743188959,7280758554555802590,8532644243296465576,9350256976987008742,10552545826968843579,11727347734174303076,12113106623233404929,14000437183269869457,14369950271660146224,15101387698204529176,15463397548674623760,17586052441742319658,1182934255886127544,1847814050463011016,2177327727835720531,2830643537854262169,3796741975233480872,4115178125766777443,5681478168544905931,6601373596472566643,7507060721942968483,8399075790359081724,8693463985226723168,9568029438360202098,10144078919501101548,10430055236837252648,11840083180663258601,13761210420658862357,14299343276471374635,14566680578165727644,15097957966210449927,16922976911328602910,17689382322260857208,500013540394364858,748580250866718886,1242879168328830382,1977374033974150939,2944078676154940804,3659926193048069267,4368137639120453308,4836135668995329356,5532061633213252278,6448918945643986474,6902733635092675308,7801388544844847127]
def G_first256:LI:=[1779033703,3144134277,1013904242,2773480762,1359893119,2600822924,528734635,1541459225]
def G_table256:LI:=[1116352408,1899447441,3049323471,3921009573,961987163,1508970993,2453635748,2870763221,3624381080,310598401,607225278,1426881987,1925078388,2162078206,2614888103,3248222580,3835390401,4022224774,264347078,604807628,770255983,1249150122,1555081692,1996064986,2554220882,2821834349,2952996808,3210313671,3336571891,3584528711,113926993,338241895,666307205,773529912,1294757372,1396182291,1695183700,1986661051,2177026350,2456956037,2730485921,2820302411,3259730800,3345764771,3516065817,3600352804,4094571909,275423344,430227734,506948616,659060556,883997877,958139571,1322822218,1537002063,1747873779,1955562222,2024104815,2227730452,2361852424,2428436474,2756734187,3204031479,3329325298]
structure Globs (W:World):Prop where
  g0:Mem W 0 0 [.ints .u64 8 G_rfirst]
  g2:Mem W 2 0 [.ints .u64 8 G_first]
  g3:Mem W 3 0 [.ints .u64 80 G_rtable]
  g4:Mem W 4 0 [.ints .u64 80 G_table]
  g5:Mem W 5 0 [.ints .u32 8 G_first256]
  g6:Mem W 6 0 [.ints .u32 64 G_table256]
theorem Globs.at {C:Cfg} {m:List Zf} {w:World} (h:Globs C.W0) (hw:Sat C.W0 C.S m w) (hS : ∀ g,g<ng->g∉C.S):Globs w:=⟨Zbo h.g0 (hS 0 (by decide)) hw,Zbo h.g2 (hS 2 (by decide)) hw,Zbo h.g3 (hS 3 (by decide)) hw,Zbo h.g4 (hS 4 (by decide)) hw,Zbo h.g5 (hS 5 (by decide)) hw,Zbo h.g6 (hS 6 (by decide)) hw⟩
theorem Globs.ap {C:Cfg} {m:List Zf} {w:World} {b:Nat} {o:Obj} (h:Globs C.W0) (hS : ∀ g,g<ng->g∉C.S) (hb:Has b o m) (hw:Sat C.W0 C.S m w) : ∀ g,g<ng->g ∉ [b]:=by
  intro g hg hm
  simp only [List.mem_singleton] at hm
  subst hm
  rcases hw.base _ hb.mem with h1 | h1
  · have h2:=h.g6.lt
    have h3:ng=7:=rfl
    simp only at h1
    omega
  · exact hS _ hg h1
structure Z0a where
  gstate:LI
  grest:LI
  glength:Int
def Zev:Option (Z0a) :=
 some (⟨G_first256,(replicate 64 0),0⟩:Z0a)
theorem Zka {W:World} {r:Z0a} (h:Zev=some r) (hG:Globs W) :
    Calls Tryz.prog 223 [].toArray W (Zd9 W [] (fun v Ms=>∃ (b1:Nat) (T0:TypeId),v = pt' b1/\Ms = [.one (ck b1 T0 [.ints .u32 8 (r.gstate),b6' r.grest,.one (.int .u64 (r.glength))])])):=by
 unfold Zev at h
 refine Z0e mo Z0l6 rfl (Zgt _) ?_
 refine Z0<|Z2<|Z6 rfl<|Z1<|Z0<|Z2<|Z4 _ (Zyc (o0:=0) (off:=0) rfl (hG.g5) (by simp) rfl)<|Z4 _ (Zd2 (q:=[.ints .u32 8 (G_first256),b6' (replicate 64 0),.one (.int .u64 (0))]) (.agg rfl rfl rfl BdR.nil))<|Zd (Z0l (s:=[.ints .u32 8 (G_first256),b6' (replicate 64 0),.one (.int .u64 (0))]) rfl fun b2 u1=>Z6 rfl<|Z1<|Zj ?_)
 revert h; refine Zv fun h=>?_
 subst h
 exact ⟨_,_,(.cons (.tmp rfl) .nil),(.o .nil),⟨_,rfl,⟨b2,247,rfl,rfl⟩⟩⟩
def Z6w (k1:Int->Option Int) (k2:Int->Int->Option Int) (i1:Int) (i2:Int):Option Int :=
 br ((i2 != 0)) (
 bnd (wrap .i64 (i1+1)) fun z1 =>
 bnd (Z0f .u32 i2 1) fun z2 =>
 k2 z1 z2
 ) (
 k1 i1
 )
def Z3o (k1:Int->Option Int):Nat->Int->Int->Option Int
  | 0,_,_=>none
  | n+1,i1,i2=>Z6w k1 (Z3o k1 n) i1 i2
def Z3w:Option Int :=
 bnd (Za .xor .u32 4294967295 0) fun z1 =>
 jn (fun (i1:Int)=>some i1) fun k1=>Z3o k1 big 0 z1
theorem Z5x {W:World} {r:Int} (h:Z3w=some r)  :
    Calls Tryz.prog 199 [].toArray W (Z34 W (.int .i64 (r))):=by
 unfold Z3w at h
 refine Zc mo Z0kl rfl ?_
 refine Z0<|Z2<|Z6 rfl<|Z1<|Z0<|Z2<|Z6 rfl<|Z1<|Z0<|Z0<|bH h fun z1 e1 h=>Z2<|Z4 _ (Z33 rfl)<|Z4 _ (iz e1 (Zv4 rfl rfl))<|Z6 rfl<|Z1<|jH h fun k1 q1 h=>Zg (G:=fun t m=>∃ (i1:Int),k1 i1=some r/\Fit [(1,.int .i64 (i1))] [] t m) ?_ ?_
 ·refine Z9<|Zm (fun n1 t m=>∃ (i2:Int) (i3:Int),Z3o k1 n1 i2 i3=some r/\Fit [(1,.int .i64 (i2)),(2,.int .u32 (i3))] [] t m) big ?_ ?_
  ·exact ⟨0,z1,h,⟨⟨rfl,rfl,trivial⟩,.nil⟩⟩
  ·rintro n1 t m ⟨i2,i3,h,hF⟩
   refine Ze hF ?_
   clear hF
   rcases n1 with _ | n1
   · exact Z07 h
   have h:Z6w k1 (Z3o k1 n1) i2 i3=some r:=h
   unfold Z6w at h
   obtain ⟨k2,q2⟩ : ∃ k,k=Z3o k1 n1:=⟨_,rfl⟩
   try rw [<- q2] at h
   refine Z0<|Z0<|Z2<|Z6 rfl<|Z4 _ (Z8 rfl rfl rfl)<|Z1<|Z09 h rfl (fun h=>?_) (fun h=>?_)
   ·refine Zh<|Z0<|Z9<|bH h fun z2 e2 h=>Z2<|Z6 rfl<|Z4 _ (iz e2 (Z8 rfl rfl rfl))<|Z6 rfl<|Z1<|bH h fun z3 e3 h=>Z2<|Z6 rfl<|Z4 _ (iz e3 (Z48 rfl rfl (by decide)))<|Z6 rfl<|Z1 ?_
    rw [q2] at h
    exact ⟨n1,Nat.lt_succ_self _,z2,z3,h,⟨⟨rfl,rfl,trivial⟩,.nil⟩⟩
   ·exact Zs _ rfl<|⟨i2,h,⟨⟨rfl,trivial⟩,.nil⟩⟩
 ·rintro t m ⟨i1,h,hF⟩
  refine Ze hF ?_
  clear hF
  subst q1
  refine Z0<|Z2<|Z6 rfl<|Z6 rfl<|Z1<|Zj ?_
  revert h; refine Zv fun h=>?_
  subst h
  exact ⟨_,(.cons (.tmp rfl) .nil),rfl⟩
def Z4t (p0:LI) (p1:Int):Option ((Bool×LI)) :=
 opt (Z3w) fun y1 =>
 bnd (wrap .i64 (Int.tdiv y1 8)) fun z1 =>
 br (((decide (p1<0))||(decide (p1>wrap .i64 ((p0.length:Int)-z1))))) (
 some (true,[])
 ) (
 bnd (wrap .i64 (p1+z1)) fun z2 =>
 chk (Zfh p1 z2 p0.length) <|
 chk (decide (0<((p0.drop (p1).toNat).take ((z2).toNat-(p1).toNat)).length)) <|
 some (false,((p0.drop (p1).toNat).take ((z2).toNat-(p1).toNat)))
 )
theorem Zd6 {W:World} {r:(Bool×LI)} {p0:LI} {p1:Int} {v0:Value} (h:Z4t p0 p1=some r) (A0:Z6v (El.int .u8) W v0 p0) :
    Calls Tryz.prog 243 [v0,.int .i64 (p1)].toArray W (Zd9 W [] (fun v Ms=>∃ (u0:Value),v=u0/\Ms = []/\Shp u0 (r.2).length/\Zqx u0=r.1/\(∀ W,Z6v (El.int .u8) W v0 p0->Z6v (El.int .u8) W u0 r.2))):=by
 unfold Z4t at h
 refine Z0e mo Z0lq rfl (Zgt _) ?_
 refine Z0<|Z2<|Z6 rfl<|Z1<|Z0<|oH h fun y1 f1 h=>bH h fun z1 e1 h=>Z2<|Z4 _ (Z0h rfl (Z5x f1))<|Z4 _ (iz e1 (Zbf rfl rfl (by decide)))<|Z6 rfl<|Z1<|Z0<|Z0<|Z2<|Z6 rfl<|Z4 _ (Z8 rfl rfl rfl)<|Z6 rfl<|Z9o rfl rfl rfl (fun hg1=>Z2z rfl _ (Z0j rfl) (Z2z rfl _ (Z0j rfl) (Z2z rfl _ (Z3l rfl (Shp.rd A0)) (Z2z rfl _ (Z0j rfl) (Z2z rfl _ (iz rfl (Z8 rfl rfl rfl)) (Z2z rfl _ (Z8 rfl rfl rfl) (Z3f))))))) (fun hg1=>rfl) rfl<|Z1<|Z09 h rfl (fun h=>?_) (fun h=>?_)
 ·refine Z0<|Z2<|Z6 rfl<|Z1<|Zj ?_
  revert h; refine Zv fun h=>?_
  subst h
  exact ⟨_,_,(.cons (.tmp rfl) .nil),.nil,⟨_,rfl,⟨(.slice none 0 0),rfl,rfl,Shp.nil,rfl,Zrt⟩⟩⟩
 ·refine Zh<|Z0<|bH h fun z2 e2 h=>cH h fun c1 h=>Z2<|Z6 rfl<|Z6 rfl<|Z6 rfl<|Z6 rfl<|Z4 _ (iz e2 (Z8 rfl rfl rfl))<|Z4 _ (Zk2 (lz:=p1) (hz:=z2) rfl (Shp.rd A0) (.yes rfl) (.yes rfl) c1)<|Z6 rfl<|Z1<|Zj<|cH h fun c2 h=>?_
  revert h; refine Zv fun h=>?_
  subst h
  exact ⟨_,_,(.cons (.tmp rfl) .nil),.nil,⟨_,rfl,⟨(Za7 1 v0 (p1).toNat (z2).toNat),rfl,rfl,(Shp.cut (Shp.rd A0) (lz:=p1) (hz:=z2) c1),(Shp.notnil (Shp.cut (Shp.rd A0) (lz:=p1) (hz:=z2) c1) c2),(fun W A0=>(Z034 A0 (lz:=p1) (hz:=z2) c1))⟩⟩⟩
def Z63 (y1:(Bool×LI)) (k1:Int->Option (Int×Bool)) (k2:Int->Int->Option (Int×Bool)) (i1:Int) (i2:Int):Option (Int×Bool) :=
 br ((decide (i2<(y1.2.length:Int)))) (
 chk (inB i2 y1.2.length) <|
 bnd (y1.2.getD (i2).toNat 0) fun z1 =>
 bnd (Z1v .u32 i1 8) fun z2 =>
 bnd (wrap .u32 z1) fun z3 =>
 bnd (Za .or .u32 z2 z3) fun z4 =>
 bnd (wrap .i64 (i2+1)) fun z5 =>
 k2 z4 z5
 ) (
 k1 i1
 )
def Z2g (y1:(Bool×LI)) (k1:Int->Option (Int×Bool)):Nat->Int->Int->Option (Int×Bool)
  | 0,_,_=>none
  | n+1,i1,i2=>Z63 y1 k1 (Z2g y1 k1 n) i1 i2
def Z4d (p0:LI) (p1:Int):Option (Int×Bool) :=
 opt (Z4t p0 p1) fun y1 =>
 jn (fun (i1:Int)=>some (i1,(!y1.1))) fun k1=>Z2g y1 k1 big 0 0
theorem Zcd {W:World} {r:Int×Bool} {p0:LI} {p1:Int} {v0:Value} (h:Z4d p0 p1=some r) (A0:Z6v (El.int .u8) W v0 p0) :
    Calls Tryz.prog 237 [v0,.int .i64 (p1)].toArray W (Z34 W (.tuple #[.int .u32 (r.1),.bool (r.2)])):=by
 unfold Z4d at h
 refine Zc mo Z0lk rfl ?_
 refine Z0<|Z2<|Z6 rfl<|Z6 rfl<|Z1<|Z0<|Z2<|Z6 rfl<|Z1<|Z0<|oH h fun y1 f1 h=>Z2<|Z6 rfl<|Z6 rfl<|Zd (Z05 rfl (fun w hw=>Zd6  f1 ((Z2k A0 Z2y) w hw)) fun v5 o1 R1=>?_)
 obtain ⟨_,rfl,rfl,P10,N8,H9⟩:=R1
 refine Z6 rfl<|Z1<|Z0<|Z0<|Z2<|Z6 rfl<|Z4 _ (Z3l rfl P10)<|Z6 rfl<|Z1<|jH h fun k1 q1 h=>Zg (G:=fun t m=>∃ (i1:Int),k1 i1=some r/\Fit [(6,.int .u32 (i1)),(7,v5)] [] t m) ?_ ?_
 ·refine Z9<|Zm (fun n1 t m=>∃ (i2:Int) (i3:Int),Z2g y1 k1 n1 i2 i3=some r/\Fit [(6,.int .u32 (i2)),(7,v5),(13,v5),(14,.int .i64 ((y1.2.length:Int))),(15,.int .i64 (i3))] [] t m) big ?_ ?_
  ·exact ⟨0,0,h,⟨⟨rfl,rfl,rfl,rfl,rfl,trivial⟩,.nil⟩⟩
  ·rintro n1 t m ⟨i2,i3,h,hF⟩
   refine Ze hF ?_
   clear hF
   rcases n1 with _ | n1
   · exact Z07 h
   have h:Z63 y1 k1 (Z2g y1 k1 n1) i2 i3=some r:=h
   unfold Z63 at h
   obtain ⟨k2,q2⟩ : ∃ k,k=Z2g y1 k1 n1:=⟨_,rfl⟩
   try rw [<- q2] at h
   refine Z0<|Z2<|Z4 _ (Z8 rfl rfl rfl)<|Z1<|Z0<|Z09 h rfl (fun h=>?_) (fun h=>?_)
   ·refine Zh<|Z0<|Z9<|Z0<|cH h fun c1 h=>bH h fun z1 e1 h=>Z2<|Z4 _ (Z5p rfl rfl P10 c1)<|Z4 _ (iz e1 (Z6k (E:=(El.int .u8)) (s:=[.one (.int .u8 (y1.2.getD (i3).toNat 0))]) rfl (Zvf H9 (Z2k A0 Z2y)) (Z01 c1) rfl rfl))<|Z6 rfl<|Z1<|bH h fun z2 e2 h=>bH h fun z3 e3 h=>bH h fun z4 e4 h=>Z2<|Z6 rfl<|Z4 _ (iz e2 (Zhg rfl rfl (by decide)))<|Z6 rfl<|Z4 _ (iz e3 (Z33 rfl))<|Z4 _ (iz e4 (Z8 rfl rfl rfl))<|Z6 rfl<|Z1<|bH h fun z5 e5 h=>Z2<|Z4 _ (iz e5 (Z8 rfl rfl rfl))<|Z6 rfl<|Z1 ?_
    rw [q2] at h
    exact ⟨n1,Nat.lt_succ_self _,z4,z5,h,⟨⟨rfl,rfl,rfl,rfl,rfl,trivial⟩,.nil⟩⟩
   ·exact Zs _ rfl<|⟨i2,h,⟨⟨rfl,rfl,trivial⟩,.nil⟩⟩
 ·rintro t m ⟨i1,h,hF⟩
  refine Ze hF ?_
  clear hF
  subst q1
  refine Z0<|Z2<|Z6 rfl<|Z6 rfl<|Z4 _ (Zzw rfl P10 N8)<|Z6 rfl<|Z6 rfl<|Z1<|Zj ?_
  revert h; refine Zv fun h=>?_
  subst h
  exact ⟨_,(.cons (.tmp rfl) (.cons (.tmp rfl) .nil)),rfl⟩
def Z3m (p0:Int) (p1:Int):Option Int :=
 opt (Z3w) fun y1 =>
 bnd (wrap .u64 p1) fun z1 =>
 bnd (wrap .i64 (y1-1)) fun z2 =>
 bnd (wrap .u64 z2) fun z3 =>
 bnd (Za .and .u64 z1 z3) fun z4 =>
 chk (decide (0<=z4)) <|
 bnd (Z0f .u32 p0 z4) fun z5 =>
 bnd (wrap .u64 y1) fun z6 =>
 bnd (wrap .u64 (z6-z4)) fun z7 =>
 chk (decide (0<=z7)) <|
 bnd (Z1v .u32 p0 z7) fun z8 =>
 bnd (Za .or .u32 z5 z8) fun z9 =>
 some z9
theorem Z3a {W:World} {r:Int} {p0:Int} {p1:Int} (h:Z3m p0 p1=some r)  :
    Calls Tryz.prog 239 [.int .u32 (p0),.int .i64 (p1)].toArray W (Z34 W (.int .u32 (r))):=by
 unfold Z3m at h
 refine Zc mo Z0lm rfl ?_
 refine Z0<|Z2<|Z6 rfl<|Z1<|Z0<|oH h fun y1 f1 h=>Z2<|Z4 _ (Z0h rfl (Z5x f1))<|Z6 rfl<|Z1<|Z0<|bH h fun z1 e1 h=>bH h fun z2 e2 h=>bH h fun z3 e3 h=>bH h fun z4 e4 h=>Z2<|Z6 rfl<|Z4 _ (iz e1 (Z33 rfl))<|Z6 rfl<|Z4 _ (iz e2 (Z8 rfl rfl rfl))<|Z4 _ (iz e3 (Z33 rfl))<|Z4 _ (iz e4 (Z8 rfl rfl rfl))<|Z6 rfl<|Z1<|Z0<|cH h fun c1 h=>bH h fun z5 e5 h=>bH h fun z6 e6 h=>bH h fun z7 e7 h=>cH h fun c2 h=>bH h fun z8 e8 h=>bH h fun z9 e9 h=>Z2<|Z6 rfl<|Z6 rfl<|Z4 _ (iz e5 (Z48 rfl rfl (of_decide_eq_true c1)))<|Z6 rfl<|Z6 rfl<|Z4 _ (iz e6 (Z33 rfl))<|Z6 rfl<|Z4 _ (iz e7 (Z8 rfl rfl rfl))<|Z4 _ (iz e8 (Zhg rfl rfl (of_decide_eq_true c2)))<|Z4 _ (iz e9 (Z8 rfl rfl rfl))<|Z6 rfl<|Z1<|Zj ?_
 revert h; refine Zv fun h=>?_
 subst h
 exact ⟨_,(.cons (.tmp rfl) .nil),rfl⟩
def Z9z (p0:Int) (p1:Int) (p2:Int) (p3:Int):Option Int :=
 opt (Z3m p0 p1) fun y1 =>
 opt (Z3m p0 p2) fun y2 =>
 bnd (Za .xor .u32 y1 y2) fun z1 =>
 chk (decide (0<=p3)) <|
 bnd (Z0f .u32 p0 p3) fun z2 =>
 bnd (Za .xor .u32 z1 z2) fun z3 =>
 some z3
theorem Zed {W:World} {r:Int} {p0:Int} {p1:Int} {p2:Int} {p3:Int} (h:Z9z p0 p1 p2 p3=some r)  :
    Calls Tryz.prog 238 [.int .u32 (p0),.int .i64 (p1),.int .i64 (p2),.int .i64 (p3)].toArray W (Z34 W (.int .u32 (r))):=by
 unfold Z9z at h
 refine Zc mo Z0ll rfl ?_
 refine Z0<|Z2<|Z6 rfl<|Z1<|Z0<|oH h fun y1 f1 h=>oH h fun y2 f2 h=>bH h fun z1 e1 h=>cH h fun c1 h=>bH h fun z2 e2 h=>bH h fun z3 e3 h=>Zt<|Z7 _ (Z0j rfl)<|Z7 _ (Z0j rfl)<|Z7 _ (Z0h rfl (Z3a f1))<|Z7 _ (Z0j rfl)<|Z7 _ (Z0j rfl)<|Z7 _ (Z0h rfl (Z3a f2))<|Z7 _ (iz e1 (Z8 rfl rfl rfl))<|Z7 _ (Z0j rfl)<|Z7 _ (Z0j rfl)<|Z7 _ (iz e2 (Z48 rfl rfl (of_decide_eq_true c1)))<|Z7 _ (iz e3 (Z8 rfl rfl rfl))<|Z7 _ (Z0j rfl)<|Z04<|Zj ?_
 revert h; refine Zv fun h=>?_
 subst h
 exact ⟨_,(.cons (.tmp rfl) .nil),rfl⟩
def Z2t (p0:LI) (k1:(LI)->OL) (k2:Int->(LI)->OL) (i1:Int) (a1:LI):OL :=
 br ((decide (i1<64))) (
 jn (fun (a2:LI)=>bnd (wrap .i64 (i1+1)) fun z1 =>
 k2 z1 a2) fun k3=>br ((decide (i1<16))) (
 bnd (wrap .i64 (4*i1)) fun z2 =>
 opt (Z4d (tk p0 0 64) z2) fun y1 =>
 chk (inB i1 64) <|
 bnd (Z28 a1 (i1).toNat y1.1) fun l1 =>
 k3 l1
 ) (
 bnd (wrap .i64 (i1-2)) fun z3 =>
 chk (inB z3 64) <|
 bnd (wrap .i64 (i1-7)) fun z4 =>
 chk (inB z4 64) <|
 bnd (wrap .i64 (i1-15)) fun z5 =>
 chk (inB z5 64) <|
 bnd (wrap .i64 (i1-16)) fun z6 =>
 chk (inB z6 64) <|
 bnd (a1.getD (z3).toNat 0) fun z7 =>
 opt (Z9z z7 17 19 10) fun y2 =>
 bnd (a1.getD (z4).toNat 0) fun z8 =>
 bnd (wrap .u32 (y2+z8)) fun z9 =>
 bnd (a1.getD (z5).toNat 0) fun z10 =>
 opt (Z9z z10 7 18 3) fun y3 =>
 bnd (wrap .u32 (z9+y3)) fun z11 =>
 bnd (a1.getD (z6).toNat 0) fun z12 =>
 bnd (wrap .u32 (z11+z12)) fun z13 =>
 chk (inB i1 64) <|
 bnd (Z28 a1 (i1).toNat z13) fun l2 =>
 k3 l2
 )
 ) (
 k1 a1
 )
def Z2u (p0:LI) (k1:(LI)->OL):Nat->Int->(LI)->OL
  | 0,_,_=>none
  | n+1,i1,a1=>Z2t p0 k1 (Z2u p0 k1 n) i1 a1
def Z6m (p0:LI):OL :=
 jn (fun (a1:LI)=>some a1) fun k1=>Z2u p0 k1 big 0 (replicate 64 0)
theorem Zf4 {W:World} {r:(LI)} {p0:LI} (h:Z6m p0=some r)  :
    Calls Tryz.prog 231 [agg [b6' p0]].toArray W (Z34 W (agg [.ints .u32 64 (r)])):=by
 unfold Z6m at h
 refine Zc mo Z0le rfl ?_
 refine Z0<|Z2<|Zd (Z0l (s:=[b6' p0]) rfl fun b1 u1=>Zd (Zq fun b2 u2=>Z1<|Z0<|Z2<|Zd (Zq fun b3 u3=>Z1<|Z0<|Z0<|Z2<|Z6 rfl<|Z1<|jH h fun k1 q1 h=>Zg (G:=fun t m=>∃ (a1:LI),k1 a1=some r/\Fit [(2,pt' b2),(3,pt' b3)] (ck b3 250 [.ints .u32 64 (a1)]::(ck b2 250 [.ints .u32 64 ((replicate 64 0))]::(ck b1 26 [b6' p0] :: []))) t m) ?_ ?_)))
 ·refine Z9<|Zm (fun n1 t m=>∃ (i1:Int) (a2:LI),Z2u p0 k1 n1 i1 a2=some r/\Fit [(1,pt' b1),(2,pt' b2),(3,pt' b3),(5,.int .i64 (i1))] (ck b3 250 [.ints .u32 64 (a2)]::(ck b2 250 [.ints .u32 64 ((replicate 64 0))]::(ck b1 26 [b6' p0] :: []))) t m) big ?_ ?_
  ·exact ⟨0,(replicate 64 0),h,⟨⟨rfl,rfl,rfl,rfl,trivial⟩,(.o (.o (.o .nil)))⟩⟩
  ·rintro n1 t m ⟨i1,a2,h,hF⟩
   refine Ze hF ?_
   clear hF
   rcases n1 with _ | n1
   · exact Z07 h
   have h:Z2t p0 k1 (Z2u p0 k1 n1) i1 a2=some r:=h
   unfold Z2t at h
   obtain ⟨k2,q2⟩ : ∃ k,k=Z2u p0 k1 n1:=⟨_,rfl⟩
   try rw [<- q2] at h
   refine Z0<|Z2<|Z4 _ (Z8 rfl rfl rfl)<|Z1<|Z0<|Z09 h rfl (fun h=>?_) (fun h=>?_)
   ·refine Zh<|Z0<|jH h fun k3 q3 h=>Zg (G:=fun t m=>∃ (a3:LI),k3 a3=some r/\Fit [(1,pt' b1),(2,pt' b2),(3,pt' b3),(5,.int .i64 (i1))] (ck b3 250 [.ints .u32 64 (a3)]::(ck b2 250 [.ints .u32 64 ((replicate 64 0))]::(ck b1 26 [b6' p0] :: []))) t m) ?_ ?_
    ·refine Z9<|Z0<|Z2<|Z6 rfl<|Z6 rfl<|Z1<|Z0<|Z0<|Z2<|Z6 rfl<|Z4 _ (Z8 rfl rfl rfl)<|Z1<|Z09 h rfl (fun h=>?_) (fun h=>?_)
     ·exact Z0<|bH h fun z1 e1 h=>oH h fun y1 f1 h=>cH h fun c1 h=>bH h fun l1 g1 h=>Z2<|Z6 rfl<|Z4 _ (Zf3 rfl .no .no .no (by simp) (by decide))<|Z6 rfl<|Z4 _ (iz e1 (Z8 rfl rfl rfl))<|Z4 _ (Z1a rfl (fun w hw=>Zcd f1 ((Z6u (s:=[b6' p0]) (N:=64) (k:=.u8) (base:=0) (lo:=0) (hi:=64) (mz:=64) .t2 rfl (by decide)) w hw)))<|Z6 rfl<|Z4 _ (Z40 rfl rfl)<|Z4 _ (Z40 rfl rfl)<|Z4 _ (Z0i rfl rfl (Z08 c1))<|Zd (Z1h (q:=[.ints .u32 64 (l1)]) (base:=0) g1 rfl rfl rfl (Z01 c1) rfl .here<|Z1<|Zs _ rfl<|⟨l1,h,⟨⟨rfl,rfl,rfl,rfl,trivial⟩,(.o (.o (.o .nil)))⟩⟩)
     ·exact Zh<|bH h fun z2 e2 h=>cH h fun c2 h=>bH h fun z3 e3 h=>cH h fun c3 h=>bH h fun z4 e4 h=>cH h fun c4 h=>bH h fun z5 e5 h=>cH h fun c5 h=>bH h fun z6 e6 h=>oH h fun y2 f2 h=>bH h fun z7 e7 h=>bH h fun z8 e8 h=>bH h fun z9 e9 h=>oH h fun y3 f3 h=>bH h fun z10 e10 h=>bH h fun z11 e11 h=>bH h fun z12 e12 h=>cH h fun c6 h=>bH h fun l2 g2 h=>Zt<|Z7 _ (Z0j rfl)<|Z7 _ (Z0j rfl)<|Z7 _ (iz e2 (Z8 rfl rfl rfl))<|Z7 _ (Z0i rfl rfl (Z08 c2))<|Z7 _ (Z0j rfl)<|Z7 _ (iz e3 (Z8 rfl rfl rfl))<|Z7 _ (Z0i rfl rfl (Z08 c3))<|Z7 _ (Z0j rfl)<|Z7 _ (iz e4 (Z8 rfl rfl rfl))<|Z7 _ (Z0i rfl rfl (Z08 c4))<|Z7 _ (Z0j rfl)<|Z7 _ (iz e5 (Z8 rfl rfl rfl))<|Z7 _ (Z0i rfl rfl (Z08 c5))<|Zo _ (iz e6 (Z1w (base:=0) rfl .here rfl (Z01 c2)))<|Z7 _ (Z0h rfl (Zed f2))<|Zo _ (iz e7 (Z1w (base:=0) rfl .here rfl (Z01 c3)))<|Z7 _ (iz e8 (Z8 rfl rfl rfl))<|Zo _ (iz e9 (Z1w (base:=0) rfl .here rfl (Z01 c4)))<|Z7 _ (Z0h rfl (Zed f3))<|Z7 _ (iz e10 (Z8 rfl rfl rfl))<|Zo _ (iz e11 (Z1w (base:=0) rfl .here rfl (Z01 c5)))<|Z7 _ (iz e12 (Z8 rfl rfl rfl))<|Z7 _ (Z0i rfl rfl (Z08 c6))<|Z1i rfl (Z1h (q:=[.ints .u32 64 (l2)]) (base:=0) g2 rfl rfl rfl (Z01 c6) rfl .here<|Z04<|⟨l2,h,⟨⟨rfl,rfl,rfl,rfl,trivial⟩,(.o (.o (.o .nil)))⟩⟩)
    ·rintro t m ⟨a3,h,hF⟩
     refine Ze hF ?_
     clear hF
     subst q3
     refine bH h fun z13 e13 h=>Z2<|Z4 _ (iz e13 (Z8 rfl rfl rfl))<|Z6 rfl<|Z1 ?_
     rw [q2] at h
     exact ⟨n1,Nat.lt_succ_self _,z13,a3,h,⟨⟨rfl,rfl,rfl,rfl,trivial⟩,(.o (.o (.o .nil)))⟩⟩
   ·exact Zs _ rfl<|⟨a2,h,⟨⟨rfl,rfl,trivial⟩,(.o (.o (.o .nil)))⟩⟩
 ·rintro t m ⟨a1,h,hF⟩
  refine Ze hF ?_
  clear hF
  subst q1
  refine Z0<|Z2<|Z4 _ (Z02 (p:=[.ints .u32 64 (a1)]) rfl .here rfl)<|Zd (Zp (q:=[.ints .u32 64 (a1)]) rfl rfl rfl rfl rfl .t1<|Z1<|Zj ?_)
  revert h; refine Zv fun h=>?_
  subst h
  exact ⟨_,(.cons (.agg rfl .t1 rfl) .nil),rfl⟩
def Z7t (p0:Int) (p1:Int) (p2:Int) (p3:Int):Option Int :=
 opt (Z3m p0 p1) fun y1 =>
 opt (Z3m p0 p2) fun y2 =>
 bnd (Za .xor .u32 y1 y2) fun z1 =>
 opt (Z3m p0 p3) fun y3 =>
 bnd (Za .xor .u32 z1 y3) fun z2 =>
 some z2
theorem Zc6 {W:World} {r:Int} {p0:Int} {p1:Int} {p2:Int} {p3:Int} (h:Z7t p0 p1 p2 p3=some r)  :
    Calls Tryz.prog 232 [.int .u32 (p0),.int .i64 (p1),.int .i64 (p2),.int .i64 (p3)].toArray W (Z34 W (.int .u32 (r))):=by
 unfold Z7t at h
 refine Zc mo Z0lf rfl ?_
 refine Z0<|Z2<|Z6 rfl<|Z1<|Z0<|oH h fun y1 f1 h=>oH h fun y2 f2 h=>bH h fun z1 e1 h=>oH h fun y3 f3 h=>bH h fun z2 e2 h=>Z2<|Z6 rfl<|Z6 rfl<|Z4 _ (Z0h rfl (Z3a f1))<|Z6 rfl<|Z6 rfl<|Z4 _ (Z0h rfl (Z3a f2))<|Z4 _ (iz e1 (Z8 rfl rfl rfl))<|Z6 rfl<|Z6 rfl<|Z4 _ (Z0h rfl (Z3a f3))<|Z4 _ (iz e2 (Z8 rfl rfl rfl))<|Z6 rfl<|Z1<|Zj ?_
 revert h; refine Zv fun h=>?_
 subst h
 exact ⟨_,(.cons (.tmp rfl) .nil),rfl⟩
def Z45 (y1:(LI)) (k1:Int->Int->Int->Int->Int->Int->Int->Int->OL) (k2:Int->Int->Int->Int->Int->Int->Int->Int->Int->OL) (i1:Int) (i2:Int) (i3:Int) (i4:Int) (i5:Int) (i6:Int) (i7:Int) (i8:Int) (i9:Int):OL :=
 br ((decide (i9<64))) (
 chk (inB i9 64) <|
 bnd (y1.getD (i9).toNat 0) fun z1 =>
 opt (Z7t i5 6 11 25) fun y2 =>
 bnd (wrap .u32 (i8+y2)) fun z2 =>
 bnd (Za .and .u32 i5 i6) fun z3 =>
 bnd (Za .xor .u32 4294967295 i5) fun z4 =>
 bnd (Za .and .u32 z4 i7) fun z5 =>
 bnd (Za .xor .u32 z3 z5) fun z6 =>
 bnd (wrap .u32 (z2+z6)) fun z7 =>
 chk (inB i9 64) <|
 bnd (G_table256.getD (i9).toNat 0) fun z8 =>
 bnd (wrap .u32 (z7+z8)) fun z9 =>
 bnd (wrap .u32 (z9+z1)) fun z10 =>
 opt (Z7t i1 2 13 22) fun y3 =>
 bnd (Za .and .u32 i1 i2) fun z11 =>
 bnd (Za .and .u32 i1 i3) fun z12 =>
 bnd (Za .xor .u32 z11 z12) fun z13 =>
 bnd (Za .and .u32 i2 i3) fun z14 =>
 bnd (Za .xor .u32 z13 z14) fun z15 =>
 bnd (wrap .u32 (y3+z15)) fun z16 =>
 bnd (wrap .u32 (z10+z16)) fun z17 =>
 bnd (wrap .u32 (i4+z10)) fun z18 =>
 bnd (wrap .i64 (i9+1)) fun z19 =>
 k2 z17 i1 i2 i3 z18 i5 i6 i7 z19
 ) (
 k1 i1 i2 i3 i4 i5 i6 i7 i8
 )
def Z3g (y1:(LI)) (k1:Int->Int->Int->Int->Int->Int->Int->Int->OL):Nat->Int->Int->Int->Int->Int->Int->Int->Int->Int->OL
  | 0,_,_,_,_,_,_,_,_,_=>none
  | n+1,i1,i2,i3,i4,i5,i6,i7,i8,i9=>Z45 y1 k1 (Z3g y1 k1 n) i1 i2 i3 i4 i5 i6 i7 i8 i9
def Zaw (z1:LI) (k1:(LI)->OL) (k2:Int->(LI)->OL) (i1:Int) (a1:LI):OL :=
 br ((decide (i1<8))) (
 chk (inB i1 8) <|
 bnd (z1.getD (i1).toNat 0) fun z2 =>
 chk (inB i1 8) <|
 bnd (a1.getD (i1).toNat 0) fun z3 =>
 bnd (wrap .u32 (z3+z2)) fun z4 =>
 chk (inB i1 8) <|
 bnd (Z28 a1 (i1).toNat z4) fun l1 =>
 bnd (wrap .i64 (i1+1)) fun z5 =>
 k2 z5 l1
 ) (
 k1 a1
 )
def Z50 (z1:LI) (k1:(LI)->OL):Nat->Int->(LI)->OL
  | 0,_,_=>none
  | n+1,i1,a1=>Zaw z1 k1 (Z50 z1 k1 n) i1 a1
def Z9l (p0:LI) (p1:LI):OL :=
 bnd (p0.getD 0 0) fun z1 =>
 bnd (p0.getD 1 0) fun z2 =>
 bnd (p0.getD 2 0) fun z3 =>
 bnd (p0.getD 3 0) fun z4 =>
 bnd (p0.getD 4 0) fun z5 =>
 bnd (p0.getD 5 0) fun z6 =>
 bnd (p0.getD 6 0) fun z7 =>
 bnd (p0.getD 7 0) fun z8 =>
 opt (Z6m p1) fun y1 =>
 jn (fun (i1:Int) (i2:Int) (i3:Int) (i4:Int) (i5:Int) (i6:Int) (i7:Int) (i8:Int)=>bnd (([i1,i2,i3,i4,i5,i6,i7,i8]:LI)) fun z9 =>
 jn (fun (a1:LI)=>some a1) fun k1=>Z50 z9 k1 big 0 p0) fun k2=>Z3g y1 k2 big z1 z2 z3 z4 z5 z6 z7 z8 0
theorem Zhl {W:World} {r:(LI)} {p0:LI} {p1:LI} (h:Z9l p0 p1=some r) (hG:Globs W) :
    Calls Tryz.prog 228 [agg [.ints .u32 8 (p0)],agg [b6' p1]].toArray W (Z34 W (agg [.ints .u32 8 (r)])):=by
 unfold Z9l at h
 refine Zc mo Z0lb rfl ?_
 refine Z0<|Z2<|Zd (Z0l (s:=[.ints .u32 8 (p0)]) rfl fun b1 u1=>Zd (Z0l (s:=[b6' p1]) rfl fun b2 u2=>Zd (Zq fun b3 u3=>Z1<|Z0<|bH h fun z1 e1 h=>bH h fun z2 e2 h=>bH h fun z3 e3 h=>bH h fun z4 e4 h=>bH h fun z5 e5 h=>bH h fun z6 e6 h=>bH h fun z7 e7 h=>bH h fun z8 e8 h=>Zt<|Z7 _ (Z0i rfl rfl (by decide))<|Z7 _ (Z0i rfl rfl (by decide))<|Z7 _ (Z0i rfl rfl (by decide))<|Z7 _ (Z0i rfl rfl (by decide))<|Z7 _ (Z0i rfl rfl (by decide))<|Z7 _ (Z0i rfl rfl (by decide))<|Z7 _ (Z0i rfl rfl (by decide))<|Z7 _ (Z0i rfl rfl (by decide))<|Zo _ (iz e1 (Z0c rfl .t2 rfl))<|Z7 _ (Z0j rfl)<|Zo _ (iz e2 (Z0c rfl .t2 rfl))<|Z7 _ (Z0j rfl)<|Zo _ (iz e3 (Z0c rfl .t2 rfl))<|Z7 _ (Z0j rfl)<|Zo _ (iz e4 (Z0c rfl .t2 rfl))<|Z7 _ (Z0j rfl)<|Zo _ (iz e5 (Z0c rfl .t2 rfl))<|Z7 _ (Z0j rfl)<|Zo _ (iz e6 (Z0c rfl .t2 rfl))<|Z7 _ (Z0j rfl)<|Zo _ (iz e7 (Z0c rfl .t2 rfl))<|Z7 _ (Z0j rfl)<|Zo _ (iz e8 (Z0c rfl .t2 rfl))<|Z7 _ (Z0j rfl)<|Z04<|Z0<|Z0<|oH h fun y1 f1 h=>Z2<|Z4 _ (Z02 (p:=[b6' p1]) rfl .t1 rfl)<|Z4 _ (Z0h rfl (Zf4 f1))<|Z6 rfl<|Z1<|jH h fun k1 q1 h=>Zg (G:=fun t m=>∃ (i1:Int) (i2:Int) (i3:Int) (i4:Int) (i5:Int) (i6:Int) (i7:Int) (i8:Int),k1 i1 i2 i3 i4 i5 i6 i7 i8=some r/\Fit [(2,pt' b1),(4,pt' b3),(5,.int .u32 (i1)),(6,.int .u32 (i2)),(7,.int .u32 (i3)),(8,.int .u32 (i4)),(9,.int .u32 (i5)),(10,.int .u32 (i6)),(11,.int .u32 (i7)),(12,.int .u32 (i8))] (ck b3 245 [.ints .u32 8 ((replicate 8 0))]::(ck b2 26 [b6' p1]::(ck b1 245 [.ints .u32 8 (p0)] :: []))) t m) ?_ ?_)))
 ·refine Z9<|Zm (fun n1 t m=>∃ (i9:Int) (i10:Int) (i11:Int) (i12:Int) (i13:Int) (i14:Int) (i15:Int) (i16:Int) (i17:Int),Z3g y1 k1 n1 i9 i10 i11 i12 i13 i14 i15 i16 i17=some r/\Fit [(2,pt' b1),(4,pt' b3),(5,.int .u32 (i9)),(6,.int .u32 (i10)),(7,.int .u32 (i11)),(8,.int .u32 (i12)),(9,.int .u32 (i13)),(10,.int .u32 (i14)),(11,.int .u32 (i15)),(12,.int .u32 (i16)),(36,agg [.ints .u32 64 (y1)]),(37,.int .i64 (i17))] (ck b3 245 [.ints .u32 8 ((replicate 8 0))]::(ck b2 26 [b6' p1]::(ck b1 245 [.ints .u32 8 (p0)] :: []))) t m) big ?_ ?_
  ·exact ⟨z1,z2,z3,z4,z5,z6,z7,z8,0,h,⟨⟨rfl,rfl,rfl,rfl,rfl,rfl,rfl,rfl,rfl,rfl,rfl,rfl,trivial⟩,(.o (.o (.o .nil)))⟩⟩
  ·rintro n1 t m ⟨i9,i10,i11,i12,i13,i14,i15,i16,i17,h,hF⟩
   refine Ze hF ?_
   clear hF
   rcases n1 with _ | n1
   · exact Z07 h
   have h:Z45 y1 k1 (Z3g y1 k1 n1) i9 i10 i11 i12 i13 i14 i15 i16 i17=some r:=h
   unfold Z45 at h
   obtain ⟨k2,q2⟩ : ∃ k,k=Z3g y1 k1 n1:=⟨_,rfl⟩
   try rw [<- q2] at h
   refine Z0<|Z2<|Z4 _ (Z8 rfl rfl rfl)<|Z1<|Z0<|Z09 h rfl (fun h=>?_) (fun h=>?_)
   ·refine Zh<|Z0<|Z9<|Z0<|cH h fun c1 h=>bH h fun z9 e9 h=>Z2<|Z6 rfl<|Z4 _ (iz e9 (Zfb (len:=64) rfl rfl (Z08 c1)))<|Z6 rfl<|Z6 rfl<|Z1<|Z0<|oH h fun y2 f2 h=>bH h fun z10 e10 h=>bH h fun z11 e11 h=>bH h fun z12 e12 h=>bH h fun z13 e13 h=>bH h fun z14 e14 h=>bH h fun z15 e15 h=>cH h fun c2 h=>bH h fun z16 e16 h=>bH h fun z17 e17 h=>bH h fun z18 e18 h=>Zt<|Z7 _ (Z0j rfl)<|Z7 _ (Z0j rfl)<|Z7 _ (Z0h rfl (Zc6 f2))<|Z7 _ (iz e10 (Z8 rfl rfl rfl))<|Z7 _ (Z0j rfl)<|Z7 _ (Z0j rfl)<|Z7 _ (iz e11 (Z8 rfl rfl rfl))<|Z7 _ (Z0j rfl)<|Z7 _ (iz e12 (Zv4 rfl rfl))<|Z7 _ (Z0j rfl)<|Z7 _ (iz e13 (Z8 rfl rfl rfl))<|Z7 _ (iz e14 (Z8 rfl rfl rfl))<|Z7 _ (iz e15 (Z8 rfl rfl rfl))<|Z7 _ (Z0j rfl)<|Z7 _ (Z0i rfl rfl (Z08 c2))<|Z7 _ (Z0j rfl)<|Zo _ (iz e16 (Zzy rfl (hG.g6) (by simp) (Z01 c2)))<|Z7 _ (iz e17 (Z8 rfl rfl rfl))<|Z7 _ (iz e18 (Z8 rfl rfl rfl))<|Z7 _ (Z0j rfl)<|Z04<|Z0<|oH h fun y3 f3 h=>bH h fun z19 e19 h=>bH h fun z20 e20 h=>bH h fun z21 e21 h=>bH h fun z22 e22 h=>bH h fun z23 e23 h=>bH h fun z24 e24 h=>Z2<|Z6 rfl<|Z4 _ (Z0h rfl (Zc6 f3))<|Z6 rfl<|Z6 rfl<|Z4 _ (iz e19 (Z8 rfl rfl rfl))<|Z6 rfl<|Z6 rfl<|Z4 _ (iz e20 (Z8 rfl rfl rfl))<|Z4 _ (iz e21 (Z8 rfl rfl rfl))<|Z6 rfl<|Z6 rfl<|Z4 _ (iz e22 (Z8 rfl rfl rfl))<|Z4 _ (iz e23 (Z8 rfl rfl rfl))<|Z4 _ (iz e24 (Z8 rfl rfl rfl))<|Z6 rfl<|Z1<|bH h fun z25 e25 h=>bH h fun z26 e26 h=>Z2<|Z6 rfl<|Z6 rfl<|Z4 _ (iz e25 (Z8 rfl rfl rfl))<|Z6 rfl<|Z6 rfl<|Z6 rfl<|Z6 rfl<|Z6 rfl<|Z4 _ (iz e26 (Z8 rfl rfl rfl))<|Z6 rfl<|Z6 rfl<|Z6 rfl<|Z6 rfl<|Z6 rfl<|Z6 rfl<|Z6 rfl<|Z6 rfl<|Z6 rfl<|Z6 rfl<|Z6 rfl<|Z1<|bH h fun z27 e27 h=>Z2<|Z4 _ (iz e27 (Z8 rfl rfl rfl))<|Z6 rfl<|Z1 ?_
    rw [q2] at h
    exact ⟨n1,Nat.lt_succ_self _,z25,i9,i10,i11,z26,i13,i14,i15,z27,h,⟨⟨rfl,rfl,rfl,rfl,rfl,rfl,rfl,rfl,rfl,rfl,rfl,rfl,trivial⟩,(.o (.o (.o .nil)))⟩⟩
   ·exact Zs _ rfl<|⟨i9,i10,i11,i12,i13,i14,i15,i16,h,⟨⟨rfl,rfl,rfl,rfl,rfl,rfl,rfl,rfl,rfl,rfl,trivial⟩,(.o (.o (.o .nil)))⟩⟩
 ·rintro t m ⟨i1,i2,i3,i4,i5,i6,i7,i8,h,hF⟩
  refine Ze hF ?_
  clear hF
  subst q1
  refine Z0<|Z0<|bH h fun z28 e28 h=>Z2<|Z6 rfl<|Z6 rfl<|Z6 rfl<|Z6 rfl<|Z6 rfl<|Z6 rfl<|Z6 rfl<|Z6 rfl<|Z4 _ (az (fun z=>agg [.ints .u32 8 z]) e28 (Zd2 (.one rfl rfl rfl (.one rfl rfl rfl (.one rfl rfl rfl (.one rfl rfl rfl (.one rfl rfl rfl (.one rfl rfl rfl (.one rfl rfl rfl (.one rfl rfl rfl BdR.nil))))))))))<|Z6 rfl<|Z1<|jH h fun k3 q3 h=>Zg (G:=fun t m=>∃ (a1:LI),k3 a1=some r/\Fit [(2,pt' b1),(4,pt' b3)] (ck b3 245 [.ints .u32 8 ((replicate 8 0))]::(ck b2 26 [b6' p1]::(ck b1 245 [.ints .u32 8 (a1)] :: []))) t m) ?_ ?_
  ·refine Z9<|Zm (fun n2 t m=>∃ (i18:Int) (a2:LI),Z50 z28 k3 n2 i18 a2=some r/\Fit [(2,pt' b1),(4,pt' b3),(95,agg [.ints .u32 8 (z28)]),(96,.int .i64 (i18))] (ck b3 245 [.ints .u32 8 ((replicate 8 0))]::(ck b2 26 [b6' p1]::(ck b1 245 [.ints .u32 8 (a2)] :: []))) t m) big ?_ ?_
   ·exact ⟨0,p0,h,⟨⟨rfl,rfl,rfl,rfl,trivial⟩,(.o (.o (.o .nil)))⟩⟩
   ·rintro n2 t m ⟨i18,a2,h,hF⟩
    refine Ze hF ?_
    clear hF
    rcases n2 with _ | n2
    · exact Z07 h
    have h:Zaw z28 k3 (Z50 z28 k3 n2) i18 a2=some r:=h
    unfold Zaw at h
    obtain ⟨k4,q4⟩ : ∃ k,k=Z50 z28 k3 n2:=⟨_,rfl⟩
    try rw [<- q4] at h
    refine Z0<|Z2<|Z4 _ (Z8 rfl rfl rfl)<|Z1<|Z0<|Z09 h rfl (fun h=>?_) (fun h=>?_)
    ·refine Zh<|Z0<|Z9<|Z0<|cH h fun c3 h=>bH h fun z29 e29 h=>Z2<|Z6 rfl<|Z4 _ (iz e29 (Zfb (len:=8) rfl rfl (Z08 c3)))<|Z6 rfl<|Z6 rfl<|Z1<|cH h fun c4 h=>bH h fun z30 e30 h=>bH h fun z31 e31 h=>cH h fun c5 h=>bH h fun l1 g1 h=>Z2<|Z6 rfl<|Z4 _ (Z0i rfl rfl (Z08 c4))<|Z4 _ (iz e30 (Z1w (base:=0) rfl .t2 rfl (Z01 c4)))<|Z6 rfl<|Z4 _ (iz e31 (Z8 rfl rfl rfl))<|Z4 _ (Z0i rfl rfl (Z08 c5))<|Zd (Z1h (q:=[.ints .u32 8 (l1)]) (base:=0) g1 rfl rfl rfl (Z01 c5) rfl .t2<|Z1<|bH h fun z32 e32 h=>Z2<|Z4 _ (iz e32 (Z8 rfl rfl rfl))<|Z6 rfl<|Z1 ?_)
     rw [q4] at h
     exact ⟨n2,Nat.lt_succ_self _,z32,l1,h,⟨⟨rfl,rfl,rfl,rfl,trivial⟩,(.o (.o (.o .nil)))⟩⟩
    ·exact Zs _ rfl<|⟨a2,h,⟨⟨rfl,rfl,trivial⟩,(.o (.o (.o .nil)))⟩⟩
  ·rintro t m ⟨a1,h,hF⟩
   refine Ze hF ?_
   clear hF
   subst q3
   refine Z0<|Z2<|Z4 _ (Z02 (p:=[.ints .u32 8 (a1)]) rfl .t2 rfl)<|Zd (Zp (q:=[.ints .u32 8 (a1)]) rfl rfl rfl rfl rfl .here<|Z1<|Zj ?_)
   revert h; refine Zv fun h=>?_
   subst h
   exact ⟨_,(.cons (.agg rfl .here rfl) .nil),rfl⟩
def Z26  (k1:(LI)->(LI)->(LI)->Int->Option (Z0a)) (l1:LI) (a1:LI) (a2:LI) (i1:Int):Option (Z0a) :=
 br ((decide ((l1.length:Int)>0))) (
 bnd (Int.tmod i1 64) fun z1 =>
 chk (Zfh z1 64 64) <|
 bnd (wr a2 (z1).toNat (l1.take (64-(z1).toNat))) fun l2 =>
 chk (Zfh ((Nat.min l1.length (64-(z1).toNat):Nat):Int) (l1.length:Int) l1.length) <|
 bnd (wrap .u64 ((Nat.min l1.length (64-(z1).toNat):Nat):Int)) fun z2 =>
 bnd (wrap .u64 (i1+z2)) fun z3 =>
 bnd (Int.tmod z3 64) fun z4 =>
 br ((z4==0)) (
 opt (Z9l a1 l2) fun y1 =>
 k1 ((l1.drop (((Nat.min l1.length (64-(z1).toNat):Nat):Int)).toNat).take (((l1.length:Int)).toNat-(((Nat.min l1.length (64-(z1).toNat):Nat):Int)).toNat)) y1 l2 z3
 ) (
 k1 ((l1.drop (((Nat.min l1.length (64-(z1).toNat):Nat):Int)).toNat).take (((l1.length:Int)).toNat-(((Nat.min l1.length (64-(z1).toNat):Nat):Int)).toNat)) a1 l2 z3
 )
 ) (
 some (⟨a1,a2,i1⟩:Z0a)
 )
def Z0o:Nat->(LI)->(LI)->(LI)->Int->Option (Z0a)
  | 0,_,_,_,_=>none
  | n+1,l1,a1,a2,i1=>Z26  (Z0o  n) l1 a1 a2 i1
def Z2f (p0:Z0a) (p1:LI):Option (Z0a) :=
 Z0o  big p1 p0.gstate p0.grest p0.glength
theorem Z7s {W:World} {r:Z0a} {p0:Z0a} {p1:LI} {v1:Value} {b:Nat} {T:TypeId} (h:Z2f p0 p1=some r) (h0:Sat W [b] (ck b T [.ints .u32 8 (p0.gstate),b6' p0.grest,.one (.int .u64 (p0.glength))] :: []) W) (hG:Globs W) (hS : ∀ g,g<ng->g ∉ [b]) (A1:Z6v (El.int .u8) W v1 p1/\Zi4 v1 p1 [b]) :
    Calls Tryz.prog 224 [.pointer (some ⟨b,0,none⟩),v1].toArray W (Zd9 W [b] (fun v Ms=>v = .tuple #[]/\Ms = [.one (ck b T [.ints .u32 8 (r.gstate),b6' r.grest,.one (.int .u64 (r.glength))])])):=by
 unfold Z2f at h
 refine Z0e mo Z0l7 rfl h0 ?_
 refine Z9<|Zm (fun n1 t m=>∃ (l1:LI) (a1:LI) (a2:LI) (i1:Int) (v39:Value),Z0o  n1 l1 a1 a2 i1=some r/\(Z6v (El.int .u8) W v39 l1/\Zi4 v39 l1 [b])/\Fit [(0,.pointer (some ⟨b,0,none⟩)),(1,v39)] (ck b T [.ints .u32 8 (a1),b6' a2,.one (.int .u64 (i1))] :: []) t m) big ?_ ?_
 ·exact ⟨p1,p0.gstate,p0.grest,p0.glength,v1,h,A1,⟨⟨rfl,rfl,trivial⟩,(.o .nil)⟩⟩
 ·rintro n1 t m ⟨l1,a1,a2,i1,v39,h,A41,hF⟩
  refine Ze hF ?_
  clear hF
  rcases n1 with _ | n1
  · exact Z07 h
  have h:Z26  (Z0o  n1) l1 a1 a2 i1=some r:=h
  unfold Z26 at h
  obtain ⟨k1,q1⟩ : ∃ k,k=Z0o  n1:=⟨_,rfl⟩
  try rw [<- q1] at h
  refine Z0<|Z0<|Z2<|Z6 rfl<|Z4 _ (Z3l rfl (Shp.rd A41.1))<|Z4 _ (Z8 rfl rfl rfl)<|Z1<|Z09 h rfl (fun h=>?_) (fun h=>?_)
  ·refine Zh<|Z9<|Z0<|bH h fun z1 e1 h=>cH h fun c1 h=>bH h fun l2 g1 h=>Zt<|Z7 _ (Z0j rfl)<|Z7 _ (Z4q rfl)<|Z7 _ (Z2l rfl)<|Z7 _ (Z0j rfl)<|Z7 _ (Z4q rfl)<|Z7 _ (Z2l rfl)<|Z7 _ (Z0j rfl)<|Zo _ (Z0c rfl .here rfl)<|Z7 _ (iz e1 (Z8c rfl rfl (by decide)))<|Z7 _ (Zf3 rfl (.yes rfl) .no .no (by simp) (cut4 c1))<|Z1i rfl (Zj3 (q:=[.ints .u32 8 (a1),b6' l2,.one (.int .u64 (i1))]) (lo:=(z1).toNat) (hi:=64) (mz:=64) (base:=8) g1 rfl rfl (Z2k A41.1 A41.2) rfl (cutn c1) rfl .here<|Z7 _ (Z0j rfl)<|Z04<|Z0<|cH h fun c2 h=>Z2<|Z6 rfl<|Z6 rfl<|Z4 _ (Zk2 (lz:=((Nat.min l1.length (64-(z1).toNat):Nat):Int)) (hz:=(l1.length:Int)) rfl (Shp.rd A41.1) (.yes rfl) .no c2)<|Z6 rfl<|Z1<|Z0<|bH h fun z2 e2 h=>bH h fun z3 e3 h=>Z2<|Z6 rfl<|Z4 _ (Z4q rfl)<|Z4 _ (Z2l rfl)<|Z4 _ (Z0c rfl .here rfl)<|Z6 rfl<|Z4 _ (iz e2 (Z33 rfl))<|Z4 _ (iz e3 (Z8 rfl rfl rfl))<|Z4 _ (Z4q rfl)<|Z4 _ (Z2l rfl)<|Zd (Zhp (q:=[.ints .u32 8 (a1),b6' l2,.one (.int .u64 (z3))]) rfl rfl rfl rfl .here<|Z1<|Z0<|bH h fun z4 e4 h=>Z2<|Z6 rfl<|Z4 _ (Z4q rfl)<|Z4 _ (Z2l rfl)<|Z4 _ (Z0c rfl .here rfl)<|Z4 _ (iz e4 (Z8c rfl rfl (by decide)))<|Z4 _ (Z8 rfl rfl rfl)<|Z1<|Z09 h rfl (fun h=>?_) (fun h=>?_)))
   ·refine oH h fun y1 f1 h=>Zt<|Z7 _ (Z0j rfl)<|Z7 _ (Z0j rfl)<|Z7 _ (Z4q rfl)<|Z7 _ (Z2l rfl)<|Z7 _ (Z0j rfl)<|Z7 _ (Z4q rfl)<|Z7 _ (Z2l rfl)<|Zo _ (Z02 (p:=[.ints .u32 8 (a1)]) rfl .here rfl)<|Zo _ (Z02 (p:=[b6' l2]) rfl .here rfl)<|Z7 _ (Z1a rfl (fun w hw=>Zhl f1 (hG.at hw hS)))<|Z7 _ (Z4q rfl)<|Z7 _ (Z2l rfl)<|Z1i rfl (Zp (q:=[.ints .u32 8 (y1),b6' l2,.one (.int .u64 (z3))]) rfl rfl rfl rfl rfl .here<|Z04 ?_)
    rw [q1] at h
    exact ⟨n1,Nat.lt_succ_self _,((l1.drop (((Nat.min l1.length (64-(z1).toNat):Nat):Int)).toNat).take (((l1.length:Int)).toNat-(((Nat.min l1.length (64-(z1).toNat):Nat):Int)).toNat)),y1,l2,z3,(Za7 1 v39 (((Nat.min l1.length (64-(z1).toNat):Nat):Int)).toNat ((l1.length:Int)).toNat),h,(Zrb A41 (lz:=((Nat.min l1.length (64-(z1).toNat):Nat):Int)) (hz:=(l1.length:Int)) c2),⟨⟨rfl,rfl,trivial⟩,(.o .nil)⟩⟩
   ·refine Zh ?_
    rw [q1] at h
    exact ⟨n1,Nat.lt_succ_self _,((l1.drop (((Nat.min l1.length (64-(z1).toNat):Nat):Int)).toNat).take (((l1.length:Int)).toNat-(((Nat.min l1.length (64-(z1).toNat):Nat):Int)).toNat)),a1,l2,z3,(Za7 1 v39 (((Nat.min l1.length (64-(z1).toNat):Nat):Int)).toNat ((l1.length:Int)).toNat),h,(Zrb A41 (lz:=((Nat.min l1.length (64-(z1).toNat):Nat):Int)) (hz:=(l1.length:Int)) c2),⟨⟨rfl,rfl,trivial⟩,(.o .nil)⟩⟩
  ·refine Zs _ rfl ?_
   revert h; refine Zv fun h=>?_
   subst h
   exact ⟨_,_,.nil,(.o .nil),⟨_,rfl,⟨rfl,rfl⟩⟩⟩
def Z5v (k1:(LI)->OL) (k2:Int->(LI)->Int->OL) (i1:Int) (l1:LI) (i2:Int):OL :=
 br ((decide (i2≥0))) (
 bnd (wrap .u8 i1) fun z1 =>
 chk (inB i2 l1.length) <|
 bnd (Zkm 0 l1 (i2).toNat z1) fun l2 =>
 bnd (Z0f .u32 i1 8) fun z2 =>
 bnd (wrap .i64 (i2-1)) fun z3 =>
 k2 z2 l2 z3
 ) (
 k1 l1
 )
def Z31 (k1:(LI)->OL):Nat->Int->(LI)->Int->OL
  | 0,_,_,_=>none
  | n+1,i1,l1,i2=>Z5v k1 (Z31 k1 n) i1 l1 i2
def Z79 (p0:Int):OL :=
 opt (Z3w) fun y1 =>
 bnd (wrap .i64 (Int.tdiv y1 8)) fun z1 =>
 chk (mkB 1 z1 z1) <|
 bnd (wrap .i64 (((replicate (z1).toNat 0:LI).length:Int)-1)) fun z2 =>
 jn (fun (l1:LI)=>some l1) fun k1=>Z31 k1 big p0 (replicate (z1).toNat 0:LI) z2
theorem Zbh {W:World} {r:(LI)} {p0:Int} (h:Z79 p0=some r)  :
    Calls Tryz.prog 148 [.int .u32 (p0)].toArray W (Zd9 W [] (fun v Ms=>∃ (u0:Value) (M1:List Zf),v=u0/\Ms = [.all M1]/\Z03 (El.int .u8) u0 M1 r)):=by
 unfold Z79 at h
 refine Z0e mo Z0jq rfl (Zgt _) ?_
 refine Z0<|Z2<|Z6 rfl<|Z1<|Z0<|oH h fun y1 f1 h=>bH h fun z1 e1 h=>cH h fun c1 h=>Z2<|Z4 _ (Z0h rfl (Z5x f1))<|Z4 _ (iz e1 (Zbf rfl rfl (by decide)))<|Zd (Zfi (E:=(El.int .u8)) rfl rfl rfl c1 fun v6 w1 O1=>Z6 rfl<|Z1<|Z0<|Z0<|bH h fun z2 e2 h=>Z2<|Z6 rfl<|Z4 _ (Z3l rfl (Shp.own O1))<|Z4 _ (iz e2 (Z8 rfl rfl rfl))<|Z6 rfl<|Z1<|jH h fun k1 q1 h=>Zg (G:=fun t m=>∃ (l1:LI) (v61:Value) (w2:List Zf),k1 l1=some r/\Z03 (El.int .u8) v61 w2 l1/\Fit [(3,v61)] (w2 ++ []) t m) ?_ ?_)
 ·refine Z9<|Zm (fun n1 t m=>∃ (i1:Int) (l2:LI) (i2:Int) (v97:Value) (w3:List Zf),Z31 k1 n1 i1 l2 i2=some r/\Z03 (El.int .u8) v97 w3 l2/\Fit [(0,.int .u32 (i1)),(3,v97),(4,.int .i64 (i2))] (w3 ++ []) t m) big ?_ ?_
  ·exact ⟨p0,(replicate (z1).toNat 0:LI),z2,v6,w1,h,O1,⟨⟨rfl,rfl,rfl,trivial⟩,(.all .here .nil)⟩⟩
  ·rintro n1 t m ⟨i1,l2,i2,v97,w3,h,O2,hF⟩
   refine Ze hF ?_
   clear hF
   rcases n1 with _ | n1
   · exact Z07 h
   have h:Z5v k1 (Z31 k1 n1) i1 l2 i2=some r:=h
   unfold Z5v at h
   obtain ⟨k2,q2⟩ : ∃ k,k=Z31 k1 n1:=⟨_,rfl⟩
   try rw [<- q2] at h
   refine Z0<|Z0<|Z2<|Z6 rfl<|Z4 _ (Z8 rfl rfl rfl)<|Z1<|Z09 h rfl (fun h=>?_) (fun h=>?_)
   ·refine Zh<|Z0<|Z9<|Z0<|bH h fun z3 e3 h=>cH h fun c2 h=>bH h fun l3 g1 h=>Z2<|Z6 rfl<|Z6 rfl<|Z6 rfl<|Z4 _ (iz e3 (Z33 rfl))<|Z4 _ (Z5p rfl rfl (Shp.own O2) c2)<|Zd (Znf (E:=(El.int .u8)) g1 O2 .here rfl rfl rfl (Z01 c2) fun w4 O3=>Z1<|bH h fun z4 e4 h=>Z2<|Z6 rfl<|Z4 _ (iz e4 (Z48 rfl rfl (by decide)))<|Z6 rfl<|Z1<|bH h fun z5 e5 h=>Z2<|Z6 rfl<|Z4 _ (iz e5 (Z8 rfl rfl rfl))<|Z6 rfl<|Z1 ?_)
    rw [q2] at h
    exact ⟨n1,Nat.lt_succ_self _,z4,l3,z5,v97,w4,h,O3,⟨⟨rfl,rfl,rfl,trivial⟩,(.all .here .nil)⟩⟩
   ·exact Zs _ rfl<|⟨l2,v97,w3,h,O2,⟨⟨rfl,trivial⟩,(.all .here .nil)⟩⟩
 ·rintro t m ⟨l1,v61,w2,h,O4,hF⟩
  refine Ze hF ?_
  clear hF
  subst q1
  refine Z0<|Z2<|Z6 rfl<|Z6 rfl<|Z1<|Zj ?_
  revert h; refine Zv fun h=>?_
  subst h
  exact ⟨_,_,(.cons (.tmp rfl) .nil),(.all .here .nil),⟨_,rfl,⟨v61,w2,rfl,rfl,O4⟩⟩⟩
def Z6x (k1:Int->Option Int) (k2:Int->Int->Option Int) (i1:Int) (i2:Int):Option Int :=
 br ((i2 != 0)) (
 bnd (wrap .i64 (i1+1)) fun z1 =>
 bnd (Z0f .u64 i2 1) fun z2 =>
 k2 z1 z2
 ) (
 k1 i1
 )
def Z3p (k1:Int->Option Int):Nat->Int->Int->Option Int
  | 0,_,_=>none
  | n+1,i1,i2=>Z6x k1 (Z3p k1 n) i1 i2
def Z3x:Option Int :=
 bnd (Za .xor .u64 18446744073709551615 0) fun z1 =>
 jn (fun (i1:Int)=>some i1) fun k1=>Z3p k1 big 0 z1
theorem Z5y {W:World} {r:Int} (h:Z3x=some r)  :
    Calls Tryz.prog 183 [].toArray W (Z34 W (.int .i64 (r))):=by
 unfold Z3x at h
 refine Zc mo Z0k8 rfl ?_
 refine Z0<|Z2<|Z6 rfl<|Z1<|Z0<|Z2<|Z6 rfl<|Z1<|Z0<|Z0<|bH h fun z1 e1 h=>Z2<|Z4 _ (Z33 rfl)<|Z4 _ (iz e1 (Zv4 rfl rfl))<|Z6 rfl<|Z1<|jH h fun k1 q1 h=>Zg (G:=fun t m=>∃ (i1:Int),k1 i1=some r/\Fit [(1,.int .i64 (i1))] [] t m) ?_ ?_
 ·refine Z9<|Zm (fun n1 t m=>∃ (i2:Int) (i3:Int),Z3p k1 n1 i2 i3=some r/\Fit [(1,.int .i64 (i2)),(2,.int .u64 (i3))] [] t m) big ?_ ?_
  ·exact ⟨0,z1,h,⟨⟨rfl,rfl,trivial⟩,.nil⟩⟩
  ·rintro n1 t m ⟨i2,i3,h,hF⟩
   refine Ze hF ?_
   clear hF
   rcases n1 with _ | n1
   · exact Z07 h
   have h:Z6x k1 (Z3p k1 n1) i2 i3=some r:=h
   unfold Z6x at h
   obtain ⟨k2,q2⟩ : ∃ k,k=Z3p k1 n1:=⟨_,rfl⟩
   try rw [<- q2] at h
   refine Z0<|Z0<|Z2<|Z6 rfl<|Z4 _ (Z8 rfl rfl rfl)<|Z1<|Z09 h rfl (fun h=>?_) (fun h=>?_)
   ·refine Zh<|Z0<|Z9<|bH h fun z2 e2 h=>Z2<|Z6 rfl<|Z4 _ (iz e2 (Z8 rfl rfl rfl))<|Z6 rfl<|Z1<|bH h fun z3 e3 h=>Z2<|Z6 rfl<|Z4 _ (iz e3 (Z48 rfl rfl (by decide)))<|Z6 rfl<|Z1 ?_
    rw [q2] at h
    exact ⟨n1,Nat.lt_succ_self _,z2,z3,h,⟨⟨rfl,rfl,trivial⟩,.nil⟩⟩
   ·exact Zs _ rfl<|⟨i2,h,⟨⟨rfl,trivial⟩,.nil⟩⟩
 ·rintro t m ⟨i1,h,hF⟩
  refine Ze hF ?_
  clear hF
  subst q1
  refine Z0<|Z2<|Z6 rfl<|Z6 rfl<|Z1<|Zj ?_
  revert h; refine Zv fun h=>?_
  subst h
  exact ⟨_,(.cons (.tmp rfl) .nil),rfl⟩
def Z5w (k1:(LI)->OL) (k2:Int->(LI)->Int->OL) (i1:Int) (l1:LI) (i2:Int):OL :=
 br ((decide (i2≥0))) (
 bnd (wrap .u8 i1) fun z1 =>
 chk (inB i2 l1.length) <|
 bnd (Zkm 0 l1 (i2).toNat z1) fun l2 =>
 bnd (Z0f .u64 i1 8) fun z2 =>
 bnd (wrap .i64 (i2-1)) fun z3 =>
 k2 z2 l2 z3
 ) (
 k1 l1
 )
def Z32 (k1:(LI)->OL):Nat->Int->(LI)->Int->OL
  | 0,_,_,_=>none
  | n+1,i1,l1,i2=>Z5w k1 (Z32 k1 n) i1 l1 i2
def Z1o (p0:Int):OL :=
 opt (Z3x) fun y1 =>
 bnd (wrap .i64 (Int.tdiv y1 8)) fun z1 =>
 chk (mkB 1 z1 z1) <|
 bnd (wrap .i64 (((replicate (z1).toNat 0:LI).length:Int)-1)) fun z2 =>
 jn (fun (l1:LI)=>some l1) fun k1=>Z32 k1 big p0 (replicate (z1).toNat 0:LI) z2
theorem Z2h {W:World} {r:(LI)} {p0:Int} (h:Z1o p0=some r)  :
    Calls Tryz.prog 118 [.int .u64 (p0)].toArray W (Zd9 W [] (fun v Ms=>∃ (u0:Value) (M1:List Zf),v=u0/\Ms = [.all M1]/\Z03 (El.int .u8) u0 M1 r)):=by
 unfold Z1o at h
 refine Z0e mo Z0j6 rfl (Zgt _) ?_
 refine Z0<|Z2<|Z6 rfl<|Z1<|Z0<|oH h fun y1 f1 h=>bH h fun z1 e1 h=>cH h fun c1 h=>Z2<|Z4 _ (Z0h rfl (Z5y f1))<|Z4 _ (iz e1 (Zbf rfl rfl (by decide)))<|Zd (Zfi (E:=(El.int .u8)) rfl rfl rfl c1 fun v6 w1 O1=>Z6 rfl<|Z1<|Z0<|Z0<|bH h fun z2 e2 h=>Z2<|Z6 rfl<|Z4 _ (Z3l rfl (Shp.own O1))<|Z4 _ (iz e2 (Z8 rfl rfl rfl))<|Z6 rfl<|Z1<|jH h fun k1 q1 h=>Zg (G:=fun t m=>∃ (l1:LI) (v61:Value) (w2:List Zf),k1 l1=some r/\Z03 (El.int .u8) v61 w2 l1/\Fit [(3,v61)] (w2 ++ []) t m) ?_ ?_)
 ·refine Z9<|Zm (fun n1 t m=>∃ (i1:Int) (l2:LI) (i2:Int) (v97:Value) (w3:List Zf),Z32 k1 n1 i1 l2 i2=some r/\Z03 (El.int .u8) v97 w3 l2/\Fit [(0,.int .u64 (i1)),(3,v97),(4,.int .i64 (i2))] (w3 ++ []) t m) big ?_ ?_
  ·exact ⟨p0,(replicate (z1).toNat 0:LI),z2,v6,w1,h,O1,⟨⟨rfl,rfl,rfl,trivial⟩,(.all .here .nil)⟩⟩
  ·rintro n1 t m ⟨i1,l2,i2,v97,w3,h,O2,hF⟩
   refine Ze hF ?_
   clear hF
   rcases n1 with _ | n1
   · exact Z07 h
   have h:Z5w k1 (Z32 k1 n1) i1 l2 i2=some r:=h
   unfold Z5w at h
   obtain ⟨k2,q2⟩ : ∃ k,k=Z32 k1 n1:=⟨_,rfl⟩
   try rw [<- q2] at h
   refine Z0<|Z0<|Z2<|Z6 rfl<|Z4 _ (Z8 rfl rfl rfl)<|Z1<|Z09 h rfl (fun h=>?_) (fun h=>?_)
   ·refine Zh<|Z0<|Z9<|Z0<|bH h fun z3 e3 h=>cH h fun c2 h=>bH h fun l3 g1 h=>Z2<|Z6 rfl<|Z6 rfl<|Z6 rfl<|Z4 _ (iz e3 (Z33 rfl))<|Z4 _ (Z5p rfl rfl (Shp.own O2) c2)<|Zd (Znf (E:=(El.int .u8)) g1 O2 .here rfl rfl rfl (Z01 c2) fun w4 O3=>Z1<|bH h fun z4 e4 h=>Z2<|Z6 rfl<|Z4 _ (iz e4 (Z48 rfl rfl (by decide)))<|Z6 rfl<|Z1<|bH h fun z5 e5 h=>Z2<|Z6 rfl<|Z4 _ (iz e5 (Z8 rfl rfl rfl))<|Z6 rfl<|Z1 ?_)
    rw [q2] at h
    exact ⟨n1,Nat.lt_succ_self _,z4,l3,z5,v97,w4,h,O3,⟨⟨rfl,rfl,rfl,trivial⟩,(.all .here .nil)⟩⟩
   ·exact Zs _ rfl<|⟨l2,v97,w3,h,O2,⟨⟨rfl,trivial⟩,(.all .here .nil)⟩⟩
 ·rintro t m ⟨l1,v61,w2,h,O4,hF⟩
  refine Ze hF ?_
  clear hF
  subst q1
  refine Z0<|Z2<|Z6 rfl<|Z6 rfl<|Z1<|Zj ?_
  revert h; refine Zv fun h=>?_
  subst h
  exact ⟨_,_,(.cons (.tmp rfl) .nil),(.all .here .nil),⟨_,rfl,⟨v61,w2,rfl,rfl,O4⟩⟩⟩
def Zc5 (p0:Int):OL :=
 bnd (Int.tmod p0 64) fun z1 =>
 bnd (wrap .i64 z1) fun z2 =>
 bnd (wrap .i64 (z2+9)) fun z3 =>
 bnd (Int.tmod z3 64) fun z4 =>
 bnd (wrap .i64 (64-z4)) fun z5 =>
 bnd (Int.tmod z5 64) fun z6 =>
 bnd (wrap .i64 (1+z6)) fun z7 =>
 bnd (wrap .i64 (1+z6)) fun z8 =>
 bnd (wrap .i64 (z8+8)) fun z9 =>
 chk (mkB 1 z7 z9) <|
 chk (inB 0 (replicate (z7).toNat 0:LI).length) <|
 bnd (Zkm 0 (replicate (z7).toNat 0:LI) (0:Int).toNat 128) fun l1 =>
 bnd (wrap .u64 (p0*8)) fun z10 =>
 opt (Z1o z10) fun y1 =>
 chk (decide ((l1.length+y1.length)*1<=140737488355328)) <|
 bnd (l1++y1) fun l2 =>
 some l2
theorem Zkb {W:World} {r:(LI)} {p0:Int} (h:Zc5 p0=some r)  :
    Calls Tryz.prog 229 [.int .u64 (p0)].toArray W (Zd9 W [] (fun v Ms=>∃ (u0:Value) (M1:List Zf),v=u0/\Ms = [.all M1]/\Z03 (El.int .u8) u0 M1 r)):=by
 unfold Zc5 at h
 refine Z0e mo Z0lc rfl (Zgt _) ?_
 refine Z0<|Z2<|Z6 rfl<|Z1<|Z0<|bH h fun z1 e1 h=>bH h fun z2 e2 h=>bH h fun z3 e3 h=>bH h fun z4 e4 h=>bH h fun z5 e5 h=>bH h fun z6 e6 h=>Z2<|Z6 rfl<|Z4 _ (iz e1 (Z8c rfl rfl (by decide)))<|Z4 _ (iz e2 (Z33 rfl))<|Z4 _ (iz e3 (Z8 rfl rfl rfl))<|Z4 _ (iz e4 (Z8c rfl rfl (by decide)))<|Z4 _ (iz e5 (Z8 rfl rfl rfl))<|Z4 _ (iz e6 (Z8c rfl rfl (by decide)))<|Z6 rfl<|Z1<|Z0<|bH h fun z7 e7 h=>bH h fun z8 e8 h=>bH h fun z9 e9 h=>cH h fun c1 h=>Z2<|Z6 rfl<|Z4 _ (iz e7 (Z8 rfl rfl rfl))<|Z6 rfl<|Z4 _ (iz e8 (Z8 rfl rfl rfl))<|Z4 _ (iz e9 (Z8 rfl rfl rfl))<|Zd (Zfi (E:=(El.int .u8)) rfl rfl rfl c1 fun v14 w1 O1=>Z6 rfl<|Z1<|Z0<|cH h fun c2 h=>bH h fun l1 g1 h=>Z2<|Z6 rfl<|Z4 _ (Z5p rfl rfl (Shp.own O1) c2)<|Zd (Znf (E:=(El.int .u8)) g1 O1 .here rfl rfl rfl (Z01 c2) fun w2 O2=>Z1<|Z0<|bH h fun z10 e10 h=>oH h fun y1 f1 h=>cH h fun c3 h=>bH h fun l2 g2 h=>Z2<|Z6 rfl<|Z6 rfl<|Z4 _ (iz e10 (Z8 rfl rfl rfl))<|Zd (Z05 rfl (fun w hw=>Z2h  f1 ) fun v25 o1 R1=>?_)))
 obtain ⟨_,w3,rfl,rfl,O3⟩:=R1
 refine Zd (Z1m (E:=(El.int .u8)) g2 rfl O2 (.app .here) rfl (Z00 O3 .here) c3 fun v32 w4 O4=>Z6 rfl<|Z1<|Zj ?_)
 revert h; refine Zv fun h=>?_
 subst h
 exact ⟨_,_,(.cons (.tmp rfl) .nil),(.all .here .nil),⟨_,rfl,⟨v32,w4,rfl,rfl,O4⟩⟩⟩
def Z6y (y1:Z0a) (k1:(LI)->Option ((LI)×Z0a)) (k2:Int->(LI)->Option ((LI)×Z0a)) (i1:Int) (a1:LI):Option ((LI)×Z0a) :=
 br ((decide (i1<8))) (
 chk (inB i1 8) <|
 bnd (y1.gstate.getD (i1).toNat 0) fun z1 =>
 bnd (wrap .i64 (4*i1)) fun z2 =>
 chk (Zfh z2 32 32) <|
 opt (Z79 z1) fun y2 =>
 bnd (wr a1 (z2).toNat (y2.take (32-(z2).toNat))) fun l1 =>
 bnd (wrap .i64 (i1+1)) fun z3 =>
 k2 z3 l1
 ) (
 k1 a1
 )
def Z2w (y1:Z0a) (k1:(LI)->Option ((LI)×Z0a)):Nat->Int->(LI)->Option ((LI)×Z0a)
  | 0,_,_=>none
  | n+1,i1,a1=>Z6y y1 k1 (Z2w y1 k1 n) i1 a1
def Z51 (p0:Z0a):Option ((LI)×Z0a) :=
 opt (Zc5 p0.glength) fun y1 =>
 opt (Z2f p0 y1) fun y2 =>
 jn (fun (a1:LI)=>some (a1,p0)) fun k1=>Z2w y2 k1 big 0 (replicate 32 0)
theorem Zda {W:World} {r:(LI)×Z0a} {p0:Z0a} {b:Nat} {T:TypeId} (h:Z51 p0=some r) (h0:Sat W [b] (ck b T [.ints .u32 8 (p0.gstate),b6' p0.grest,.one (.int .u64 (p0.glength))] :: []) W) (hG:Globs W) (hS : ∀ g,g<ng->g ∉ [b]) :
    Calls Tryz.prog 225 [.pointer (some ⟨b,0,none⟩)].toArray W (Zd9 W [b] (fun v Ms=>v=agg [b3' r.1]/\Ms = [.one (ck b T [.ints .u32 8 (r.2.gstate),b6' r.2.grest,.one (.int .u64 (r.2.glength))])])):=by
 unfold Z51 at h
 refine Z0e mo Z0l8 rfl h0 ?_
 refine Z0<|Z2<|Zd (Zq fun b1 u1=>Z1<|Z0<|Z2<|Z6 rfl<|Z4 _ (Z4q rfl)<|Z4 _ (Z02 (p:=[.ints .u32 8 (p0.gstate),b6' p0.grest,.one (.int .u64 (p0.glength))]) rfl .t1 rfl)<|Zd (Zq fun b2 u2=>Zd (Zp (q:=[.ints .u32 8 (p0.gstate),b6' p0.grest,.one (.int .u64 (p0.glength))]) rfl rfl rfl rfl rfl .here<|Z1<|Z0<|oH h fun y1 f1 h=>oH h fun y2 f2 h=>Z2<|Z6 rfl<|Z4 _ (Z4q rfl)<|Z4 _ (Z2l rfl)<|Z4 _ (Z0c rfl .t2 rfl)<|Zd (Z05 rfl (fun w hw=>Zkb  f1 ) fun v7 o1 R1=>?_))))
 obtain ⟨_,w1,rfl,rfl,O1⟩:=R1
 refine Zd (Z78 (mS:=[_]) rfl (Z41.perm (.app .here)) (fun w hw=>Z7s  f2 (Zav hw (mS:=[_]) (Z41.perm (.app .here))) (hG.at hw hS) (hG.ap hS (.app .here) hw) ⟨(Z00 O1 .here) w hw,(Zn9 (E:=(El.int .u8)) O1 .here .here hw)⟩) fun v13 o2 R2=>?_)
 obtain ⟨rfl,rfl⟩:=R2
 refine Z1<|Z0<|Z2<|Zd (Zq fun b3 u3=>Z1<|Z0<|Z0<|Z2<|Z4 _ (Z2l rfl)<|Z4 _ (Z02 (p:=[.ints .u32 8 (y2.gstate)]) rfl .t1 rfl)<|Z6 rfl<|Z1<|jH h fun k1 q1 h=>Zg (G:=fun t m=>∃ (a1:LI),k1 a1=some r/\Fit [(2,pt' b1),(4,pt' b3)] (ck b3 23 [b3' a1]::(ck b2 247 [.ints .u32 8 (y2.gstate),b6' y2.grest,.one (.int .u64 (y2.glength))]::(ck b1 23 [b3' (replicate 32 0)]::(ck b T [.ints .u32 8 (p0.gstate),b6' p0.grest,.one (.int .u64 (p0.glength))] :: [])))) t m) ?_ ?_)
 ·refine Z9<|Zm (fun n1 t m=>∃ (i1:Int) (a2:LI),Z2w y2 k1 n1 i1 a2=some r/\Fit [(2,pt' b1),(4,pt' b3),(17,agg [.ints .u32 8 (y2.gstate)]),(18,.int .i64 (i1))] (ck b3 23 [b3' a2]::(ck b2 247 [.ints .u32 8 (y2.gstate),b6' y2.grest,.one (.int .u64 (y2.glength))]::(ck b1 23 [b3' (replicate 32 0)]::(ck b T [.ints .u32 8 (p0.gstate),b6' p0.grest,.one (.int .u64 (p0.glength))] :: [])))) t m) big ?_ ?_
  ·exact ⟨0,(replicate 32 0),h,⟨⟨rfl,rfl,rfl,rfl,trivial⟩,(.o (.o (.one (.app .here) (.one (.app .here) .nil))))⟩⟩
  ·rintro n1 t m ⟨i1,a2,h,hF⟩
   refine Ze hF ?_
   clear hF
   rcases n1 with _ | n1
   · exact Z07 h
   have h:Z6y y2 k1 (Z2w y2 k1 n1) i1 a2=some r:=h
   unfold Z6y at h
   obtain ⟨k2,q2⟩ : ∃ k,k=Z2w y2 k1 n1:=⟨_,rfl⟩
   try rw [<- q2] at h
   refine Z0<|Z2<|Z4 _ (Z8 rfl rfl rfl)<|Z1<|Z0<|Z09 h rfl (fun h=>?_) (fun h=>?_)
   ·refine Zh<|Z0<|Z9<|Z0<|cH h fun c1 h=>bH h fun z1 e1 h=>Z2<|Z6 rfl<|Z4 _ (iz e1 (Zfb (len:=8) rfl rfl (Z08 c1)))<|Z6 rfl<|Z6 rfl<|Z1<|bH h fun z2 e2 h=>cH h fun c2 h=>oH h fun y3 f3 h=>bH h fun l1 g1 h=>Zt<|Z7 _ (Z0j rfl)<|Z7 _ (iz e2 (Z8 rfl rfl rfl))<|Z7 _ (Zf3 rfl (.yes rfl) .no .no (by simp) (cut4 c2))<|Z7 _ (Z0j rfl)<|Z47 (Z05 rfl (fun w hw=>Zbh  f3 ) fun v116 o3 R3=>?_)
    obtain ⟨_,w2,rfl,rfl,O2⟩:=R3
    refine ⟨(by repeat (first | exact Sup.refl _ | apply Sup.cons | apply Sup.app)),Z1i rfl (Zj3 (q:=[b3' l1]) (lo:=(z2).toNat) (hi:=32) (mz:=32) (base:=0) g1 rfl rfl (Z00 O2 .here) rfl (cutn c2) rfl (.app .here) (Z04 (bH h fun z3 e3 h=>Z2 (Z4 _ (iz e3 (Z8 rfl rfl rfl)) (Z6 rfl (Z1 ?_))))))⟩
    rw [q2] at h
    exact ⟨n1,Nat.lt_succ_self _,z3,l1,h,⟨⟨rfl,rfl,rfl,rfl,trivial⟩,(.one (.app .here) (.one (.app .here) (.one (.app .here) (.one (.app .here) .nil))))⟩⟩
   ·exact Zs _ rfl<|⟨a2,h,⟨⟨rfl,rfl,trivial⟩,(.o (.o (.o (.o .nil))))⟩⟩
 ·rintro t m ⟨a1,h,hF⟩
  refine Ze hF ?_
  clear hF
  subst q1
  refine Z0<|Z2<|Z4 _ (Z02 (p:=[b3' a1]) rfl .here rfl)<|Zd (Zp (q:=[b3' a1]) rfl rfl rfl rfl rfl .t2<|Z1<|Zj ?_)
  revert h; refine Zv fun h=>?_
  subst h
  exact ⟨_,_,(.cons (.agg rfl .t2 rfl) .nil),(.one .t3 .nil),⟨_,rfl,⟨rfl,rfl⟩⟩⟩
def Z8n (p0:LI):OL :=
 opt (Zev ) fun y1 =>
 opt (Z2f y1 p0) fun y2 =>
 opt (Z51 y2) fun y3 =>
 some y3.1
theorem Z46 {W:World} {r:(LI)} {p0:LI} {v0:Value} (h:Z8n p0=some r) (hG:Globs W) (A0:Z6v (El.int .u8) W v0 p0) :
    Calls Tryz.prog 214 [v0].toArray W (Z34 W (agg [b3' r])):=by
 unfold Z8n at h
 refine Zc mo Z0kx rfl ?_
 refine Z0<|Z2<|Zd (Zq fun b1 u1=>Z1<|Z0<|oH h fun y1 f1 h=>Z2<|Zd (Z05 rfl (fun w hw=>Zka  f1 (hG.at hw (by simp))) fun v5 o1 R1=>?_))
 obtain ⟨b2,T8,rfl,rfl⟩:=R1
 refine Z6 rfl<|Z1<|Z0<|oH h fun y2 f2 h=>Z2<|Z6 rfl<|Z6 rfl<|Zd (Z78 (mS:=[_]) rfl (Z41.perm .here) (fun w hw=>Z7s  f2 (Zav hw (mS:=[_]) (Z41.perm .here)) (hG.at hw (by simp)) (hG.ap (by simp) .here hw) ⟨(Z2k A0 Z2y) w hw,(Zn8 (E:=(El.int .u8)) A0 .here hw)⟩) fun v11 o2 R2=>?_)
 obtain ⟨rfl,rfl⟩:=R2
 refine Z1<|Z0<|oH h fun y3 f3 h=>Z2<|Z6 rfl<|Zd (Z78 (mS:=[_]) rfl (Z41.perm .here) (fun w hw=>Zda  f3 (Zav hw (mS:=[_]) (Z41.perm .here)) (hG.at hw (by simp)) (hG.ap (by simp) .here hw)) fun v15 o3 R3=>?_)
 obtain ⟨rfl,rfl⟩:=R3
 refine Zd (Zp (q:=[b3' y3.1]) rfl rfl rfl rfl rfl .t1<|Z1<|Zj ?_)
 revert h; refine Zv fun h=>?_
 subst h
 exact ⟨_,(.cons (.agg rfl .t1 rfl) .nil),rfl⟩
def Zde (p0:List (LI)) (k1:Int->OL) (k2:Int->Int->OL) (i1:Int) (i2:Int):OL :=
 br ((decide (i2<(p0.length:Int)))) (
 chk (inB i2 p0.length) <|
 bnd (wrap .i64 (i1+((p0.getD (i2).toNat []).length:Int))) fun z1 =>
 bnd (wrap .i64 (i2+1)) fun z2 =>
 k2 z1 z2
 ) (
 k1 i1
 )
def Z8v (p0:List (LI)) (k1:Int->OL):Nat->Int->Int->OL
  | 0,_,_=>none
  | n+1,i1,i2=>Zde p0 k1 (Z8v p0 k1 n) i1 i2
def Zdf (p0:List (LI)) (k1:(LI)->OL) (k2:(LI)->Int->OL) (l1:LI) (i1:Int):OL :=
 br ((decide (i1<(p0.length:Int)))) (
 chk (inB i1 p0.length) <|
 chk (decide ((l1.length+(p0.getD (i1).toNat []).length)*1<=140737488355328)) <|
 bnd (l1++(p0.getD (i1).toNat [])) fun l2 =>
 bnd (wrap .i64 (i1+1)) fun z1 =>
 k2 l2 z1
 ) (
 k1 l1
 )
def Z8w (p0:List (LI)) (k1:(LI)->OL):Nat->(LI)->Int->OL
  | 0,_,_=>none
  | n+1,l1,i1=>Zdf p0 k1 (Z8w p0 k1 n) l1 i1
def Z5n (p0:List (LI)):OL :=
 jn (fun (i1:Int)=>chk (mkB 1 0 i1) <|
 jn (fun (l1:LI)=>some l1) fun k1=>Z8w p0 k1 big (replicate 0 0:LI) 0) fun k2=>Z8v p0 k2 big 0 0
theorem Z2m {W:World} {r:(LI)} {p0:List (LI)} {v0:Value} {us0:List SlT} (h:Z5n p0=some r) (A0:Z6v El.sl W v0 us0) (B0:Zgu (El.int .u8) W us0 p0) :
    Calls Tryz.prog 117 [v0].toArray W (Zd9 W [] (fun v Ms=>∃ (u0:Value) (M1:List Zf),v=u0/\Ms = [.all M1]/\Z03 (El.int .u8) u0 M1 r)):=by
 unfold Z5n at h
 refine Z0e mo Z0j5 rfl (Zgt _) ?_
 refine Z0<|Z2<|Z6 rfl<|Z1<|Z0<|Z2<|Z6 rfl<|Z1<|Z0<|Z0<|Z2<|Z6 rfl<|Z4 _ ((Zud (Z3l rfl (Shp.rd A0)) (Zgu.len B0)))<|Z6 rfl<|Z1<|jH h fun k1 q1 h=>Zg (G:=fun t m=>∃ (i1:Int),k1 i1=some r/\Fit [(0,v0),(3,.int .i64 (i1))] [] t m) ?_ ?_
 ·refine Z9<|Zm (fun n1 t m=>∃ (i2:Int) (i3:Int),Z8v p0 k1 n1 i2 i3=some r/\Fit [(0,v0),(3,.int .i64 (i2)),(9,v0),(10,.int .i64 ((p0.length:Int))),(11,.int .i64 (i3))] [] t m) big ?_ ?_
  ·exact ⟨0,0,h,⟨⟨rfl,rfl,rfl,rfl,rfl,trivial⟩,.nil⟩⟩
  ·rintro n1 t m ⟨i2,i3,h,hF⟩
   refine Ze hF ?_
   clear hF
   rcases n1 with _ | n1
   · exact Z07 h
   have h:Zde p0 k1 (Z8v p0 k1 n1) i2 i3=some r:=h
   unfold Zde at h
   obtain ⟨k2,q2⟩ : ∃ k,k=Z8v p0 k1 n1:=⟨_,rfl⟩
   try rw [<- q2] at h
   refine Z0<|Z2<|Z4 _ (Z8 rfl rfl rfl)<|Z1<|Z0<|Z09 h rfl (fun h=>?_) (fun h=>?_)
   ·refine Zh<|Z0<|Z9<|Z0<|cH h fun c1 h=>Z2<|Z4 _ (Z5p rfl rfl (Shp.rd A0) (Zm1 B0 c1))<|Z4 _ (Z6k (E:=El.sl) (s:=[.one (slV (us0.getD (i3).toNat (none,0,0)))]) rfl (Z2k A0 Z2y) (Z01 (Zm1 B0 c1)) rfl rfl)<|Z6 rfl<|Z1<|bH h fun z1 e1 h=>Z2<|Z6 rfl<|Z6 rfl<|Z4 _ (Z3l rfl (Shp.rd (Zgu.get B0 _ (Z01 c1))))<|Z4 _ (iz e1 (Z8 rfl rfl rfl))<|Z6 rfl<|Z1<|bH h fun z2 e2 h=>Z2<|Z4 _ (iz e2 (Z8 rfl rfl rfl))<|Z6 rfl<|Z1 ?_
    rw [q2] at h
    exact ⟨n1,Nat.lt_succ_self _,z1,z2,h,⟨⟨rfl,rfl,rfl,rfl,rfl,trivial⟩,.nil⟩⟩
   ·exact Zs _ rfl<|⟨i2,h,⟨⟨rfl,rfl,trivial⟩,.nil⟩⟩
 ·rintro t m ⟨i1,h,hF⟩
  refine Ze hF ?_
  clear hF
  subst q1
  refine Z0<|cH h fun c2 h=>Z2<|Z6 rfl<|Zd (Zfi (E:=(El.int .u8)) rfl rfl rfl c2 fun v66 w1 O1=>Z6 rfl<|Z1<|Z0<|Z0<|Z2<|Z6 rfl<|Z4 _ ((Zud (Z3l rfl (Shp.rd A0)) (Zgu.len B0)))<|Z6 rfl<|Z1<|jH h fun k3 q3 h=>Zg (G:=fun t m=>∃ (l1:LI) (v117:Value) (w2:List Zf),k3 l1=some r/\Z03 (El.int .u8) v117 w2 l1/\Fit [(6,v117)] (w2 ++ []) t m) ?_ ?_)
  ·refine Z9<|Zm (fun n2 t m=>∃ (l2:LI) (i4:Int) (v150:Value) (w3:List Zf),Z8w p0 k3 n2 l2 i4=some r/\Z03 (El.int .u8) v150 w3 l2/\Fit [(6,v150),(22,v0),(23,.int .i64 ((p0.length:Int))),(24,.int .i64 (i4))] (w3 ++ []) t m) big ?_ ?_
   ·exact ⟨(replicate 0 0:LI),0,v66,w1,h,O1,⟨⟨rfl,rfl,rfl,rfl,trivial⟩,(.all .here .nil)⟩⟩
   ·rintro n2 t m ⟨l2,i4,v150,w3,h,O2,hF⟩
    refine Ze hF ?_
    clear hF
    rcases n2 with _ | n2
    · exact Z07 h
    have h:Zdf p0 k3 (Z8w p0 k3 n2) l2 i4=some r:=h
    unfold Zdf at h
    obtain ⟨k4,q4⟩ : ∃ k,k=Z8w p0 k3 n2:=⟨_,rfl⟩
    try rw [<- q4] at h
    refine Z0<|Z2<|Z4 _ (Z8 rfl rfl rfl)<|Z1<|Z0<|Z09 h rfl (fun h=>?_) (fun h=>?_)
    ·refine Zh<|Z0<|Z9<|Z0<|cH h fun c3 h=>Z2<|Z4 _ (Z5p rfl rfl (Shp.rd A0) (Zm1 B0 c3))<|Z4 _ (Z6k (E:=El.sl) (s:=[.one (slV (us0.getD (i4).toNat (none,0,0)))]) rfl (Z2k A0 Z2y) (Z01 (Zm1 B0 c3)) rfl rfl)<|Z6 rfl<|Z1<|cH h fun c4 h=>bH h fun l3 g1 h=>Z2<|Z6 rfl<|Z6 rfl<|Zd (Z1m (E:=(El.int .u8)) g1 rfl O2 .here rfl (Z2k (Zgu.get B0 _ (Z01 c3)) Z2y) c4 fun v164 w4 O3=>Z6 rfl<|Z1<|bH h fun z3 e3 h=>Z2<|Z4 _ (iz e3 (Z8 rfl rfl rfl))<|Z6 rfl<|Z1 ?_)
     rw [q4] at h
     exact ⟨n2,Nat.lt_succ_self _,l3,z3,v164,w4,h,O3,⟨⟨rfl,rfl,rfl,rfl,trivial⟩,(.all .here .nil)⟩⟩
    ·exact Zs _ rfl<|⟨l2,v150,w3,h,O2,⟨⟨rfl,trivial⟩,(.all .here .nil)⟩⟩
  ·rintro t m ⟨l1,v117,w2,h,O4,hF⟩
   refine Ze hF ?_
   clear hF
   subst q3
   refine Z0<|Z2<|Z6 rfl<|Z6 rfl<|Z1<|Zj ?_
   revert h; refine Zv fun h=>?_
   subst h
   exact ⟨_,_,(.cons (.tmp rfl) .nil),(.all .here .nil),⟨_,rfl,⟨v117,w2,rfl,rfl,O4⟩⟩⟩
def Z2e (p0:Int) (p1:Int) (p2:Int):Option Bool :=
 some ((decide (p0≥p1))&&(decide (p0<=p2)))
theorem Z4c {W:World} {r:Bool} {p0:Int} {p1:Int} {p2:Int} (h:Z2e p0 p1 p2=some r)  :
    Calls Tryz.prog 62 [.int .i64 (p0),.int .i64 (p1),.int .i64 (p2)].toArray W (Z34 W (.bool (r))):=by
 unfold Z2e at h
 refine Zc mo ok62 rfl ?_
 refine Z0<|Z2<|Z6 rfl<|Z1<|Z0<|Z2<|Z6 rfl<|Z6 rfl<|Z4 _ (Z8 rfl rfl rfl)<|Z6 rfl<|Zi2 rfl rfl rfl (fun hg1=>Z2z rfl _ (Z0j rfl) (Z2z rfl _ (Z0j rfl) (Z2z rfl _ (Z8 rfl rfl rfl) (Z3f)))) (fun hg1=>rfl) rfl<|Z6 rfl<|Z1<|Zj ?_
 revert h; refine Zv fun h=>?_
 subst h
 exact ⟨_,(.cons (.tmp rfl) .nil),rfl⟩
structure Zz where
  gGates:Int
  gWallets:Int
  gRows:Int
  gFlash:Int
  gSerials:Int
  gSecret:LI
def Z8l (p0:Zz):Option Int :=
 opt (Z2e p0.gGates 1 16) fun y1 =>
 chk (imp y1 ((Z2e p0.gWallets 1 8).isSome)) <|
 opt (Z2e p0.gRows 1 256) fun y2 =>
 chk (imp y2 ((Z2e p0.gFlash 512 1048576).isSome)) <|
 chk (imp (!((!(y1&&((Z2e p0.gWallets 1 8).getD false)))||(!(y2&&((Z2e p0.gFlash 512 1048576).getD false))))) ((Z2e p0.gSerials 1 65535).isSome)) <|
 br ((((!(y1&&((Z2e p0.gWallets 1 8).getD false)))||(!(y2&&((Z2e p0.gFlash 512 1048576).getD false))))||(!((Z2e p0.gSerials 1 65535).getD false)))) (
 some 4
 ) (
 some 0
 )
theorem Zas {W:World} {r:Int} {p0:Zz} (h:Z8l p0=some r)  :
    Calls Tryz.prog 17 [agg [.one (.int .i64 (p0.gGates)),.one (.int .i64 (p0.gWallets)),.one (.int .i64 (p0.gRows)),.one (.int .i64 (p0.gFlash)),.one (.int .i64 (p0.gSerials)),b3' p0.gSecret]].toArray W (Z34 W (.int .i64 (r))):=by
 unfold Z8l at h
 refine Zc mo ok17 rfl ?_
 refine Z0<|Z2<|Zd (Z0l (s:=[.one (.int .i64 (p0.gGates)),.one (.int .i64 (p0.gWallets)),.one (.int .i64 (p0.gRows)),.one (.int .i64 (p0.gFlash)),.one (.int .i64 (p0.gSerials)),b3' p0.gSecret]) rfl fun b1 u1=>Z6 rfl<|Z1<|Z0<|oH h fun y1 f1 h=>cH h fun c1 h=>Z2<|Z4 _ (Z2l rfl)<|Z4 _ (Z0c rfl .here rfl)<|Z4 _ (Z0h rfl (Z4c f1))<|Z6 rfl<|Zi2 rfl rfl rfl (fun hg1=>Z2z rfl _ (Z2l rfl) (Z2z rfl _ (Z0c rfl .here rfl) (Z2z rfl _ (Z1a rfl (fun _ _=>Z4c (getD_some (z:=false) (Zu6 c1 hg1)))) (Z3f)))) (fun hg1=>rfl) rfl<|Z6 rfl<|Z1<|Z0<|oH h fun y2 f2 h=>cH h fun c2 h=>Z2<|Z4 _ (Z2l rfl)<|Z4 _ (Z0c rfl .here rfl)<|Z4 _ (Z0h rfl (Z4c f2))<|Z6 rfl<|Zi2 rfl rfl rfl (fun hg1=>Z2z rfl _ (Z2l rfl) (Z2z rfl _ (Z0c rfl .here rfl) (Z2z rfl _ (Z1a rfl (fun _ _=>Z4c (getD_some (z:=false) (Zu6 c2 hg1)))) (Z3f)))) (fun hg1=>rfl) rfl<|Z6 rfl<|Z1<|Z0<|Z0<|cH h fun c3 h=>Z2<|Z6 rfl<|Z4 _ (Zv4 rfl rfl)<|Z6 rfl<|Z9o rfl rfl rfl (fun hg1=>Z2z rfl _ (Z0j rfl) (Z2z rfl _ (Zv4 rfl rfl) (Z3f))) (fun hg1=>rfl) rfl<|Z6 rfl<|Z9o rfl rfl rfl (fun hg1=>Z2z rfl _ (Z2l rfl) (Z2z rfl _ (Z0c rfl .here rfl) (Z2z rfl _ (Z1a rfl (fun _ _=>Z4c (getD_some (z:=false) (Z01r c3 hg1)))) (Z2z rfl _ (Zv4 rfl rfl) (Z3f))))) (fun hg1=>rfl) rfl<|Z1<|Z09 h rfl (fun h=>?_) (fun h=>?_))
 ·refine Z0<|Z2<|Z6 rfl<|Z1<|Zj ?_
  revert h; refine Zv fun h=>?_
  subst h
  exact ⟨_,(.cons (.tmp rfl) .nil),rfl⟩
 ·refine Zh<|Z0<|Z2<|Z6 rfl<|Z1<|Zj ?_
  revert h; refine Zv fun h=>?_
  subst h
  exact ⟨_,(.cons (.tmp rfl) .nil),rfl⟩
def Z2q (p0:Zz):Option Int :=
 br (((((((decide (p0.gGates<1))||(decide (p0.gGates>16)))||(decide (p0.gWallets<1)))||(decide (p0.gWallets>8)))||(decide (p0.gRows<1)))||(decide (p0.gRows>256)))) (
 some 4
 ) (
 br (((((decide (p0.gFlash<512))||(decide (p0.gFlash>1048576)))||(decide (p0.gSerials<1)))||(decide (p0.gSerials>65535)))) (
 some 4
 ) (
 some 0
 )
 )
theorem Z5f {W:World} {r:Int} {p0:Zz} (h:Z2q p0=some r)  :
    Calls Tryz.prog 18 [agg [.one (.int .i64 (p0.gGates)),.one (.int .i64 (p0.gWallets)),.one (.int .i64 (p0.gRows)),.one (.int .i64 (p0.gFlash)),.one (.int .i64 (p0.gSerials)),b3' p0.gSecret]].toArray W (Z34 W (.int .i64 (r))):=by
 unfold Z2q at h
 refine Zc mo ok18 rfl ?_
 refine Z0<|Z2<|Zd (Z0l (s:=[.one (.int .i64 (p0.gGates)),.one (.int .i64 (p0.gWallets)),.one (.int .i64 (p0.gRows)),.one (.int .i64 (p0.gFlash)),.one (.int .i64 (p0.gSerials)),b3' p0.gSecret]) rfl fun b1 u1=>Z6 rfl<|Z1<|Z0<|Z0<|Z2<|Z4 _ (Z2l rfl)<|Z4 _ (Z0c rfl .here rfl)<|Z4 _ (Z8 rfl rfl rfl)<|Z6 rfl<|Z9o rfl rfl rfl (fun hg1=>Z2z rfl _ (Z2l rfl) (Z2z rfl _ (Z0c rfl .here rfl) (Z2z rfl _ (Z8 rfl rfl rfl) (Z3f)))) (fun hg1=>rfl) rfl<|Z6 rfl<|Z9o rfl rfl rfl (fun hg1=>Z2z rfl _ (Z2l rfl) (Z2z rfl _ (Z0c rfl .here rfl) (Z2z rfl _ (Z8 rfl rfl rfl) (Z3f)))) (fun hg1=>rfl) rfl<|Z6 rfl<|Z9o rfl rfl rfl (fun hg1=>Z2z rfl _ (Z2l rfl) (Z2z rfl _ (Z0c rfl .here rfl) (Z2z rfl _ (Z8 rfl rfl rfl) (Z3f)))) (fun hg1=>rfl) rfl<|Z6 rfl<|Z9o rfl rfl rfl (fun hg1=>Z2z rfl _ (Z2l rfl) (Z2z rfl _ (Z0c rfl .here rfl) (Z2z rfl _ (Z8 rfl rfl rfl) (Z3f)))) (fun hg1=>rfl) rfl<|Z6 rfl<|Z9o rfl rfl rfl (fun hg1=>Z2z rfl _ (Z2l rfl) (Z2z rfl _ (Z0c rfl .here rfl) (Z2z rfl _ (Z8 rfl rfl rfl) (Z3f)))) (fun hg1=>rfl) rfl<|Z1<|Z09 h rfl (fun h=>?_) (fun h=>?_))
 ·refine Z0<|Z2<|Z6 rfl<|Z1<|Zj ?_
  revert h; refine Zv fun h=>?_
  subst h
  exact ⟨_,(.cons (.tmp rfl) .nil),rfl⟩
 ·refine Zh<|Z0<|Z0<|Z2<|Z4 _ (Z2l rfl)<|Z4 _ (Z0c rfl .here rfl)<|Z4 _ (Z8 rfl rfl rfl)<|Z6 rfl<|Z9o rfl rfl rfl (fun hg1=>Z2z rfl _ (Z2l rfl) (Z2z rfl _ (Z0c rfl .here rfl) (Z2z rfl _ (Z8 rfl rfl rfl) (Z3f)))) (fun hg1=>rfl) rfl<|Z6 rfl<|Z9o rfl rfl rfl (fun hg1=>Z2z rfl _ (Z2l rfl) (Z2z rfl _ (Z0c rfl .here rfl) (Z2z rfl _ (Z8 rfl rfl rfl) (Z3f)))) (fun hg1=>rfl) rfl<|Z6 rfl<|Z9o rfl rfl rfl (fun hg1=>Z2z rfl _ (Z2l rfl) (Z2z rfl _ (Z0c rfl .here rfl) (Z2z rfl _ (Z8 rfl rfl rfl) (Z3f)))) (fun hg1=>rfl) rfl<|Z1<|Z09 h rfl (fun h=>?_) (fun h=>?_)
  ·refine Z0<|Z2<|Z6 rfl<|Z1<|Zj ?_
   revert h; refine Zv fun h=>?_
   subst h
   exact ⟨_,(.cons (.tmp rfl) .nil),rfl⟩
  ·refine Zh<|Z0<|Z2<|Z6 rfl<|Z1<|Zj ?_
   revert h; refine Zv fun h=>?_
   subst h
   exact ⟨_,(.cons (.tmp rfl) .nil),rfl⟩
def Z94 (p0:LI):OL :=
 some (tk p0 0 32)
theorem Zbn {W:World} {r:(LI)} {p0:LI} (h:Z94 p0=some r)  :
    Calls Tryz.prog 215 [agg [b3' p0]].toArray W (Zd9 W [] (fun v Ms=>∃ (u0:Value) (M1:List Zf),v=u0/\Ms = [.all M1]/\Z03 (El.int .u8) u0 M1 r)):=by
 unfold Z94 at h
 refine Z0e mo Z0ky rfl (Zgt _) ?_
 refine Z0<|Z2<|Zd (Z0l (s:=[b3' p0]) rfl fun b1 hb1=>Z6 rfl<|Z1<|Z0<|Z2<|Z4 _ (Zf3 rfl .no .no .no (by simp) (by decide))<|Z6 rfl<|Z1<|Zj ?_)
 revert h; refine Zv fun h=>?_
 subst h
 exact ⟨_,_,(.cons (.tmp rfl) .nil),(.o .nil),⟨_,rfl,⟨(.slice (some (Z54 b1 0 0 32 1)) (32-0) (32-0)),[ck b1 23 [b3' p0]],rfl,rfl,(Zjh (s:=[b3' p0]) (N:=32) (k:=.u8) (base:=0) (lo:=0) (hi:=32) (mz:=32) rfl (by decide))⟩⟩⟩
def Z0x (p0:Int) (l1:LI) (k1:(LI)->OL) (k2:(LI)->Int->OL) (l2:LI) (i1:Int):OL :=
 br ((decide (i1<(l1.length:Int)))) (
 chk (inB i1 l2.length) <|
 bnd (l2.getD (i1).toNat 0) fun z1 =>
 bnd (Za .xor .u8 z1 p0) fun z2 =>
 chk (inB i1 l2.length) <|
 bnd (Zkm 0 l2 (i1).toNat z2) fun l3 =>
 bnd (wrap .i64 (i1+1)) fun z3 =>
 k2 l3 z3
 ) (
 k1 l2
 )
def Z0n (p0:Int) (l1:LI) (k1:(LI)->OL):Nat->(LI)->Int->OL
  | 0,_,_=>none
  | n+1,l2,i1=>Z0x p0 l1 k1 (Z0n p0 l1 k1 n) l2 i1
def Z25 (p0:Int) (p1:Int) (p2:LI):OL :=
 chk (mkB 1 p1 p1) <|
 chk (decide (0<(replicate (p1).toNat 0:LI).length)) <|
 bnd (p2.take (replicate (p1).toNat 0:LI).length++(replicate (p1).toNat 0:LI).drop p2.length) fun l1 =>
 jn (fun (l2:LI)=>some l2) fun k1=>Z0n p0 l1 k1 big l1 0
theorem Z43 {W:World} {r:(LI)} {p0:Int} {p1:Int} {p2:LI} {cb1:Nat} {cb2:Nat} {v2:Value} (h:Z25 p0 p1 p2=some r) (A1:Zwx W cb1 (.int .i64 (p1))) (B2:Z6v (El.int .u8) W v2 p2) (A2:Zwx W cb2 (v2)) :
    Calls Tryz.prog 222 [.int .u8 (p0),.pointer (some ⟨cb1,0,none⟩),.pointer (some ⟨cb2,0,none⟩)].toArray W (Zd9 W [] (fun v Ms=>∃ (u0:Value) (M1:List Zf),v=u0/\Ms = [.all M1]/\Z03 (El.int .u8) u0 M1 r)):=by
 unfold Z25 at h
 refine Z0e mo Z0l5 rfl (Zgt _) ?_
 refine Z0<|Z2<|Z6 rfl<|Z1<|Z0<|cH h fun c1 h=>Z2<|Z4 _ (Zhw rfl (Za2 A1 (by simp)))<|Zd (Zfi (E:=(El.int .u8)) rfl rfl rfl c1 fun v4 w1 O1=>Z6 rfl<|Z1<|Z0<|cH h fun c2 h=>bH h fun l1 g1 h=>Z2<|Z6 rfl<|Z4 _ (Zhw rfl (Za2 A2 (by simp)))<|Zd (Z01j (E:=(El.int .u8)) g1 rfl O1 .here rfl (Z2k B2 Z2y) (of_decide_eq_true c2) fun w2 O2=>Z1<|Z0<|Z0<|Z2<|Z6 rfl<|Z4 _ (Z3l rfl (Shp.own O2))<|Z6 rfl<|Z1<|jH h fun k1 q1 h=>Zg (G:=fun t m=>∃ (l2:LI) (v63:Value) (w3:List Zf),k1 l2=some r/\Z03 (El.int .u8) v63 w3 l2/\Fit [(5,v63)] (w3 ++ []) t m) ?_ ?_))
 ·refine Z9<|Zm (fun n1 t m=>∃ (l3:LI) (i1:Int) (v98:Value) (w4:List Zf),Z0n p0 l1 k1 n1 l3 i1=some r/\Z03 (El.int .u8) v98 w4 l3/\Fit [(0,.int .u8 (p0)),(5,v98),(13,.int .i64 ((l1.length:Int))),(14,.int .i64 (i1))] (w4 ++ []) t m) big ?_ ?_
  ·exact ⟨l1,0,v4,w2,h,O2,⟨⟨rfl,rfl,rfl,rfl,trivial⟩,(.all .here .nil)⟩⟩
  ·rintro n1 t m ⟨l3,i1,v98,w4,h,O3,hF⟩
   refine Ze hF ?_
   clear hF
   rcases n1 with _ | n1
   · exact Z07 h
   have h:Z0x p0 l1 k1 (Z0n p0 l1 k1 n1) l3 i1=some r:=h
   unfold Z0x at h
   obtain ⟨k2,q2⟩ : ∃ k,k=Z0n p0 l1 k1 n1:=⟨_,rfl⟩
   try rw [<- q2] at h
   refine Z0<|Z2<|Z4 _ (Z8 rfl rfl rfl)<|Z1<|Z0<|Z09 h rfl (fun h=>?_) (fun h=>?_)
   ·refine Zh<|Z0<|Z9<|Z0<|Z2<|Z6 rfl<|Z6 rfl<|Z1<|cH h fun c3 h=>bH h fun z1 e1 h=>bH h fun z2 e2 h=>cH h fun c4 h=>bH h fun l4 g2 h=>Z2<|Z6 rfl<|Z6 rfl<|Z4 _ (Z5p rfl rfl (Shp.own O3) c3)<|Z4 _ (iz e1 (Z6k (E:=(El.int .u8)) (s:=[.one (.int .u8 (l3.getD (i1).toNat 0))]) rfl (Z00 O3 .here) (Z01 c3) rfl rfl))<|Z6 rfl<|Z4 _ (iz e2 (Z8 rfl rfl rfl))<|Z4 _ (Z5p rfl rfl (Shp.own O3) c4)<|Zd (Znf (E:=(El.int .u8)) g2 O3 .here rfl rfl rfl (Z01 c4) fun w5 O4=>Z1<|bH h fun z3 e3 h=>Z2<|Z4 _ (iz e3 (Z8 rfl rfl rfl))<|Z6 rfl<|Z1 ?_)
    rw [q2] at h
    exact ⟨n1,Nat.lt_succ_self _,l4,z3,v98,w5,h,O4,⟨⟨rfl,rfl,rfl,rfl,trivial⟩,(.all .here .nil)⟩⟩
   ·exact Zs _ rfl<|⟨l3,v98,w4,h,O3,⟨⟨rfl,trivial⟩,(.all .here .nil)⟩⟩
 ·rintro t m ⟨l2,v63,w3,h,O5,hF⟩
  refine Ze hF ?_
  clear hF
  subst q1
  refine Z0<|Z2<|Z6 rfl<|Z6 rfl<|Z1<|Zj ?_
  revert h; refine Zv fun h=>?_
  subst h
  exact ⟨_,_,(.cons (.tmp rfl) .nil),(.all .here .nil),⟨_,rfl,⟨v63,w3,rfl,rfl,O5⟩⟩⟩
end Go.Proofs.YtiflckckekjbnaaGreatDoor
namespace Go.Proofs.YtiflckckekjbnaaGreatDoor
open Go Go.Sx Go.RowKit
open Go.IntKind (wrap)
set_option linter.all false
set_option maxHeartbeats 400000
set_option maxRecDepth 100000
def Z4r (p0:LI) (p1:LI) (p2:Int):OL :=
 jn (fun (l1:LI)=>jn (fun (a1:LI)=>opt (Z25 92 p2 l1) fun y1 =>
 opt (Z94 a1) fun y2 =>
 opt (Z5n [y1,y2]) fun y3 =>
 opt (Z8n y3) fun y4 =>
 some y4) fun k1=>opt (Z25 54 p2 l1) fun y5 =>
 opt (Z5n [y5,p1]) fun y6 =>
 opt (Z8n y6) fun y7 =>
 k1 y7) fun k2=>br ((decide ((p0.length:Int)>p2))) (
 opt (Z8n p0) fun y8 =>
 opt (Z94 y8) fun y9 =>
 k2 y9
 ) (
 k2 p0
 )
theorem Zbc {W:World} {r:(LI)} {p0:LI} {p1:LI} {p2:Int} {v0:Value} {v1:Value} {cb2:Nat} {cb3:Nat} {cb4:Nat} (h:Z4r p0 p1 p2=some r) (hG:Globs W) (A0:Z6v (El.int .u8) W v0 p0) (A1:Z6v (El.int .u8) W v1 p1) (A2:Zwx W cb2 (.int .i64 (p2))) (A3:Zwx W cb3 (.func (.func 215) #[] #[])) (A4:Zwx W cb4 (.func (.func 214) #[] #[])) :
    Calls Tryz.prog 221 [v0,v1,.pointer (some ⟨cb2,0,none⟩),.pointer (some ⟨cb3,0,none⟩),.pointer (some ⟨cb4,0,none⟩)].toArray W (Z34 W (agg [b3' r])):=by
 unfold Z4r at h
 refine Zc mo Z0l4 rfl ?_
 refine Z0<|Z2<|Zd (Zqm rfl (Zbg.cells (Shp.isSl (Shp.rd A0))) fun b1 u1=>Zd (Zq fun b2 u2=>Z1<|Z0<|Z0<|Z2<|Z4 _ (Z0c rfl .t1 rfl)<|Z4 _ (Z3l rfl (Shp.rd A0))<|Z4 _ (Zhw rfl (Za2 A2 (by simp)))<|Z4 _ (Z8 rfl rfl rfl)<|Z1<|jH h fun k1 q1 h=>Zg (G:=fun t m=>∃ (l1:LI) (v14:Value) (w1:List Zf),k1 l1=some r/\Zi6 (⟨Tryz.prog,d221.n,W,[]⟩:Cfg) w1 (El.int .u8) v14 l1/\Shp v14 l1.length/\Fit [(1,v1),(2,.pointer (some ⟨cb2,0,none⟩)),(3,.pointer (some ⟨cb3,0,none⟩)),(4,.pointer (some ⟨cb4,0,none⟩)),(5,pt' b1),(7,pt' b2)] (ck b2 23 [b3' (List.replicate 32 0)]::(ck b1 24 [.one (v14)]::(w1 ++ []))) t m) ?_ ?_))
 ·refine Z09 h rfl (fun h=>?_) (fun h=>?_)
  ·refine oH h fun y1 f1 h=>oH h fun y2 f2 h=>Zt<|Zo _ (Zhw rfl (Za2 A3 (by simp)))<|Zo _ (Zhw rfl (Za2 A4 (by simp)))<|Zo _ (Z0c rfl .t1 rfl)<|Z47 (Zho rfl rfl rfl (fun w hw=>Z46 f1 (hG.at hw (by simp)) ((Z2k A0 Z2y) w hw)) ⟨(by repeat (first | exact Sup.refl _ | apply Sup.cons | apply Sup.app)),Z47 (Zj4 rfl rfl rfl (fun w hw=>Zbn  f2 ) fun v24 o1 R1=>?_)⟩)
   obtain ⟨_,w2,rfl,rfl,O1⟩:=R1
   exact ⟨(by repeat (first | exact Sup.refl _ | apply Sup.cons | apply Sup.app)),Z1i rfl (Zhp (q:=[.one (v24)]) rfl rfl (Zbg.one1 (Z03.isSl O1)) rfl (.app .t1) (Z04 (⟨y2,v24,w2,h,(Zve O1),(Shp.own O1),⟨⟨rfl,rfl,rfl,rfl,rfl,rfl,trivial⟩,(.one (.app .here) (.one (.app .here) (.all .here .nil)))⟩⟩)))⟩
  ·exact Zh<|⟨p0,v0,[],h,(Z2k A0 Z2y),(Shp.rd A0),⟨⟨rfl,rfl,rfl,rfl,rfl,rfl,trivial⟩,(.o (.o (.no .nil)))⟩⟩
 ·rintro t m ⟨l1,v14,w1,h,H17,Z18,hF⟩
  refine Ze hF ?_
  clear hF
  subst q1
  refine Z0<|Z2<|Z4 _ (q_mf rfl)<|Z6 rfl<|Z1<|Z0<|jH h fun k2 q2 h=>Zg (G:=fun t m=>∃ (a1:LI) (b3:Nat),k2 a1=some r/\Fit [(3,.pointer (some ⟨cb3,0,none⟩)),(4,.pointer (some ⟨cb4,0,none⟩)),(7,pt' b2),(8,.func (.func 222) #[] #[.pointer (some ⟨cb2,0,none⟩),pt' b1]),(9,pt' b3)] (ck b3 23 [b3' a1]::(ck b2 23 [b3' (List.replicate 32 0)]::(ck b1 24 [.one (v14)]::(w1 ++ [])))) t m) ?_ ?_
  ·refine oH h fun y3 f3 h=>oH h fun y4 f4 h=>oH h fun y5 f5 h=>Zt<|Z7 _ (Z0j rfl)<|Z7 _ (Z0j rfl)<|Zo _ (Zhw rfl (Za2 A4 (by simp)))<|Zi3 (Zj4 rfl rfl rfl (fun w hw=>Z43  f3 ((Za2 A2 (by simp)) w hw) ((Zvd H17 .t2) w hw) (Zgw .t1 w hw)) fun v53 o2 R2=>?_) (Zq fun b4 u3=>?_)
   ·obtain ⟨_,w3,rfl,rfl,O2⟩:=R2
    refine ⟨(by repeat (first | exact Sup.refl _ | apply Sup.cons | apply Sup.app)),Zi3 (Z3i (E:=El.sl) (xs:=[unS v53,unS v1]) (.one rfl (Zbg.cells (Z03.isSl O2)) rfl (.one rfl (Zbg.cells (Shp.isSl (Shp.rd A1))) rfl BdR.nil)) (.cons (p:=[.one v53]) (Z55 (Z03.isSl O2)) (.cons (p:=[.one v1]) (Z55 (Shp.isSl (Shp.rd A1))) .nil)) rfl fun v58 w4 O3=>⟨(by repeat (first | exact Sup.refl _ | apply Sup.cons | apply Sup.app)),?_⟩) (Zq fun b4 u3=>⟨(by repeat (first | exact Sup.refl _ | apply Sup.cons | apply Sup.app)),?_⟩)⟩
    ·refine Zi3 (Z05 rfl (fun w hw=>Z2m  f4 (Z00 O3 .here w hw) (.cons (Z5q ((Z00 O2 (.app .here)) w hw)) (.cons (Z5q ((Z2k A1 Z2y) w hw)) .nil))) fun v62 o3 R3=>?_) (Zq fun b4 u3=>?_)
     ·obtain ⟨_,w5,rfl,rfl,O4⟩:=R3
      refine ⟨(by repeat (first | exact Sup.refl _ | apply Sup.cons | apply Sup.app)),Zi3 (Zho rfl rfl rfl (fun w hw=>Z46 f5 (hG.at hw (by simp)) ((Z00 O4 .here) w hw)) ⟨(by repeat (first | exact Sup.refl _ | apply Sup.cons | apply Sup.app)),?_⟩) (Zq fun b4 u3=>⟨(by repeat (first | exact Sup.refl _ | apply Sup.cons | apply Sup.app)),?_⟩)⟩
      ·exact Z47 (Zq fun b4 u3=>⟨(by repeat (first | exact Sup.refl _ | apply Sup.cons | apply Sup.app)),Z1i rfl (Zp (q:=[b3' y5]) rfl rfl rfl rfl rfl .here (Z04 (⟨y5,b4,h,⟨⟨rfl,rfl,rfl,rfl,rfl,trivial⟩,(.o (.one (.app (.app (.app .here))) (.one (.app (.app (.app .here))) (.all (.app (.app (.app .here))) .nil))))⟩⟩)))⟩)
      ·exact Z47 (Zho rfl rfl rfl (fun w hw=>Z46 f5 (hG.at hw (by simp)) ((Z00 O4 .t1) w hw)) ⟨(by repeat (first | exact Sup.refl _ | apply Sup.cons | apply Sup.app)),Z1i rfl (Zp (q:=[b3' y5]) rfl rfl rfl rfl rfl .here (Z04 (⟨y5,b4,h,⟨⟨rfl,rfl,rfl,rfl,rfl,trivial⟩,(.o (.one (.app (.app (.app .here))) (.one (.app (.app (.app .here))) (.all (.app (.app (.app .here))) .nil))))⟩⟩)))⟩)
     ·refine ⟨(by repeat (first | exact Sup.refl _ | apply Sup.cons | apply Sup.app)),Z47 (Z05 rfl (fun w hw=>Z2m  f4 (Z00 O3 .t1 w hw) (.cons (Z5q ((Z00 O2 (.there (.app .here))) w hw)) (.cons (Z5q ((Z2k A1 Z2y) w hw)) .nil))) fun v62 o3 R3=>?_)⟩
      obtain ⟨_,w5,rfl,rfl,O4⟩:=R3
      exact ⟨(by repeat (first | exact Sup.refl _ | apply Sup.cons | apply Sup.app)),Z47 (Zho rfl rfl rfl (fun w hw=>Z46 f5 (hG.at hw (by simp)) ((Z00 O4 .here) w hw)) ⟨(by repeat (first | exact Sup.refl _ | apply Sup.cons | apply Sup.app)),Z1i rfl (Zp (q:=[b3' y5]) rfl rfl rfl rfl rfl (.app .here) (Z04 (⟨y5,b4,h,⟨⟨rfl,rfl,rfl,rfl,rfl,trivial⟩,(.one (.app .here) (.one (.app (.app (.app .here))) (.one (.app (.app (.app .here))) (.all (.app (.app (.app .here))) .nil))))⟩⟩)))⟩)⟩
    ·refine Z47 (Z3i (E:=El.sl) (xs:=[unS v53,unS v1]) (.one rfl (Zbg.cells (Z03.isSl O2)) rfl (.one rfl (Zbg.cells (Shp.isSl (Shp.rd A1))) rfl BdR.nil)) (.cons (p:=[.one v53]) (Z55 (Z03.isSl O2)) (.cons (p:=[.one v1]) (Z55 (Shp.isSl (Shp.rd A1))) .nil)) rfl fun v58 w4 O3=>⟨(by repeat (first | exact Sup.refl _ | apply Sup.cons | apply Sup.app)),Z47 (Z05 rfl (fun w hw=>Z2m  f4 (Z00 O3 .here w hw) (.cons (Z5q ((Z00 O2 (.app .t1)) w hw)) (.cons (Z5q ((Z2k A1 Z2y) w hw)) .nil))) fun v62 o3 R3=>?_)⟩)
     obtain ⟨_,w5,rfl,rfl,O4⟩:=R3
     exact ⟨(by repeat (first | exact Sup.refl _ | apply Sup.cons | apply Sup.app)),Z47 (Zho rfl rfl rfl (fun w hw=>Z46 f5 (hG.at hw (by simp)) ((Z00 O4 .here) w hw)) ⟨(by repeat (first | exact Sup.refl _ | apply Sup.cons | apply Sup.app)),Z1i rfl (Zp (q:=[b3' y5]) rfl rfl rfl rfl rfl (.app (.app .here)) (Z04 (⟨y5,b4,h,⟨⟨rfl,rfl,rfl,rfl,rfl,trivial⟩,(.one (.app (.app .here)) (.one (.app (.app (.app .here))) (.one (.app (.app (.app .here))) (.all (.app (.app (.app .here))) .nil))))⟩⟩)))⟩)⟩
   ·refine ⟨(by repeat (first | exact Sup.refl _ | apply Sup.cons | apply Sup.app)),Z47 (Zj4 rfl rfl rfl (fun w hw=>Z43  f3 ((Za2 A2 (by simp)) w hw) ((Zvd H17 .t3) w hw) (Zgw .t2 w hw)) fun v53 o2 R2=>?_)⟩
    obtain ⟨_,w3,rfl,rfl,O2⟩:=R2
    refine ⟨(by repeat (first | exact Sup.refl _ | apply Sup.cons | apply Sup.app)),Z47 (Z3i (E:=El.sl) (xs:=[unS v53,unS v1]) (.one rfl (Zbg.cells (Z03.isSl O2)) rfl (.one rfl (Zbg.cells (Shp.isSl (Shp.rd A1))) rfl BdR.nil)) (.cons (p:=[.one v53]) (Z55 (Z03.isSl O2)) (.cons (p:=[.one v1]) (Z55 (Shp.isSl (Shp.rd A1))) .nil)) rfl fun v58 w4 O3=>⟨(by repeat (first | exact Sup.refl _ | apply Sup.cons | apply Sup.app)),Z47 (Z05 rfl (fun w hw=>Z2m  f4 (Z00 O3 .here w hw) (.cons (Z5q ((Z00 O2 (.app .here)) w hw)) (.cons (Z5q ((Z2k A1 Z2y) w hw)) .nil))) fun v62 o3 R3=>?_)⟩)⟩
    obtain ⟨_,w5,rfl,rfl,O4⟩:=R3
    exact ⟨(by repeat (first | exact Sup.refl _ | apply Sup.cons | apply Sup.app)),Z47 (Zho rfl rfl rfl (fun w hw=>Z46 f5 (hG.at hw (by simp)) ((Z00 O4 .here) w hw)) ⟨(by repeat (first | exact Sup.refl _ | apply Sup.cons | apply Sup.app)),Z1i rfl (Zp (q:=[b3' y5]) rfl rfl rfl rfl rfl (.app (.app (.app .here))) (Z04 (⟨y5,b4,h,⟨⟨rfl,rfl,rfl,rfl,rfl,trivial⟩,(.one (.app (.app (.app .here))) (.one (.app (.app (.app .here))) (.one (.app (.app (.app .here))) (.all (.app (.app (.app .here))) .nil))))⟩⟩)))⟩)⟩
  ·rintro t m ⟨a1,b3,h,hF⟩
   refine Ze hF ?_
   clear hF
   subst q2
   refine Z0<|oH h fun y6 f6 h=>oH h fun y7 f7 h=>oH h fun y8 f8 h=>oH h fun y9 f9 h=>Zt<|Z7 _ (Z0j rfl)<|Zo _ (Zhw rfl (Za2 A4 (by simp)))<|Zo _ (Zhw rfl (Za2 A3 (by simp)))<|Zo _ (Z02 (p:=[b3' a1]) rfl .here rfl)<|Z47 (Zj4 rfl rfl rfl (fun w hw=>Z43  f6 ((Za2 A2 (by simp)) w hw) ((Zvd H17 .t3) w hw) (Zgw .t2 w hw)) fun v71 o4 R4=>?_)
   obtain ⟨_,w6,rfl,rfl,O5⟩:=R4
   refine ⟨(by repeat (first | exact Sup.refl _ | apply Sup.cons | apply Sup.app)),Z47 (Zj4 rfl rfl rfl (fun w hw=>Zbn  f7 ) fun v77 o5 R5=>?_)⟩
   obtain ⟨_,w7,rfl,rfl,O6⟩:=R5
   refine ⟨(by repeat (first | exact Sup.refl _ | apply Sup.cons | apply Sup.app)),Z47 (Z3i (E:=El.sl) (xs:=[unS v71,unS v77]) (.one rfl (Zbg.cells (Z03.isSl O5)) rfl (.one rfl (Zbg.cells (Z03.isSl O6)) rfl BdR.nil)) (.cons (p:=[.one v71]) (Z55 (Z03.isSl O5)) (.cons (p:=[.one v77]) (Z55 (Z03.isSl O6)) .nil)) rfl fun v82 w8 O7=>⟨(by repeat (first | exact Sup.refl _ | apply Sup.cons | apply Sup.app)),Z47 (Z05 rfl (fun w hw=>Z2m  f8 (Z00 O7 .here w hw) (.cons (Z5q ((Z00 O5 (.app (.app .here))) w hw)) (.cons (Z5q ((Z00 O6 (.app .here)) w hw)) .nil))) fun v86 o6 R6=>?_)⟩)⟩
   obtain ⟨_,w9,rfl,rfl,O8⟩:=R6
   refine ⟨(by repeat (first | exact Sup.refl _ | apply Sup.cons | apply Sup.app)),Z47 (Zho rfl rfl rfl (fun w hw=>Z46 f9 (hG.at hw (by simp)) ((Z00 O8 .here) w hw)) ⟨(by repeat (first | exact Sup.refl _ | apply Sup.cons | apply Sup.app)),Z1i rfl (Zp (q:=[b3' y9]) rfl rfl rfl rfl rfl (.app (.app (.app (.app .t1)))) (Z04 (Zj ?_)))⟩)⟩
   revert h; refine Zv fun h=>?_
   subst h
   exact ⟨_,(.cons (.agg rfl (.app (.app (.app (.app .t1)))) rfl) .nil),rfl⟩
def Zbm (p0:LI) (p1:LI):OL :=
 opt (Z4r p0 p1 64) fun y1 =>
 some y1
theorem Z67 {W:World} {r:(LI)} {p0:LI} {p1:LI} {v0:Value} {v1:Value} (h:Zbm p0 p1=some r) (hG:Globs W) (A0:Z6v (El.int .u8) W v0 p0) (A1:Z6v (El.int .u8) W v1 p1) :
    Calls Tryz.prog 184 [v0,v1].toArray W (Z34 W (agg [b3' r])):=by
 unfold Zbm at h
 refine Zc mo Z0k9 rfl ?_
 refine Z0<|Z2<|Zd (Zq fun b1 u1=>Z1<|Z0<|oH h fun y1 f1 h=>Z2<|Zd (Z05 rfl (fun w hw=>Zkt (n:=64) (f:=214) (g:=215)) fun v4 o1 R1=>?_))
 obtain ⟨b2,U7,b3,U9,b4,U11,rfl,rfl⟩:=R1
 refine Z6 rfl<|Z6 rfl<|Zd (Zho rfl rfl rfl (fun w hw=>Zbc f1 (hG.at hw (by simp)) ((Z2k A0 Z2y) w hw) ((Z2k A1 Z2y) w hw) (Zgw .here w hw) (Zgw .t1 w hw) (Zgw .t2 w hw))<|Zd (Zp (q:=[b3' y1]) rfl rfl rfl rfl rfl .t3<|Z1<|Zj ?_))
 revert h; refine Zv fun h=>?_
 subst h
 exact ⟨_,(.cons (.agg rfl .t3 rfl) .nil),rfl⟩
def Z80 (p0:LI) (p1:LI) (p2:Int) (k1:(LI)->Option ((LI)×Bool)) (k2:(LI)->(LI)->Int->Option ((LI)×Bool)) (l1:LI) (l2:LI) (i1:Int):Option ((LI)×Bool) :=
 br ((decide ((l1.length:Int)<p2))) (
 jn (fun (a1:LI)=>chk (decide ((l1.length+(tk a1 0 32).length)*1<=140737488355328)) <|
 bnd (l1++(tk a1 0 32)) fun l3 =>
 bnd (wrap .u8 (i1+1)) fun z1 =>
 k2 l3 (tk a1 0 32) z1) fun k3=>opt (Z5n ([l2,p1,([i1]:LI)])) fun y1 =>
 opt (Zbm (tk p0 0 32) y1) fun y2 =>
 k3 y2
 ) (
 k1 l1
 )
def Z5h (p0:LI) (p1:LI) (p2:Int) (k1:(LI)->Option ((LI)×Bool)):Nat->(LI)->(LI)->Int->Option ((LI)×Bool)
  | 0,_,_,_=>none
  | n+1,l1,l2,i1=>Z80 p0 p1 p2 k1 (Z5h p0 p1 p2 k1 n) l1 l2 i1
def Zbl (p0:LI) (p1:LI) (p2:Int):Option ((LI)×Bool) :=
 br (((decide (p2<0))||(decide (p2>8160)))) (
 some ([],false)
 ) (
 bnd (wrap .i64 (p2+32)) fun z1 =>
 chk (mkB 1 0 z1) <|
 jn (fun (l1:LI)=>chk (Zfh 0 p2 l1.length) <|
 some ((l1.take (p2).toNat),true)) fun k1=>Z5h p0 p1 p2 k1 big (List.replicate 0 0:LI) [] 1
 )
theorem Zje {W:World} {r:(LI)×Bool} {p0:LI} {p1:LI} {p2:Int} {v1:Value} (h:Zbl p0 p1 p2=some r) (hG:Globs W) (A1:Z6v (El.int .u8) W v1 p1) :
    Calls Tryz.prog 119 [agg [b3' p0],v1,.int .i64 (p2)].toArray W (Zd9 W [] (fun v Ms=>∃ (u0:Value) (M1:List Zf),v = .tuple #[u0,.bool (r.2)]/\Ms = [.all M1]/\Z03 (El.int .u8) u0 M1 r.1)):=by
 unfold Zbl at h
 refine Z0e mo Z0j7 rfl (Zgt _) ?_
 refine Z0<|Z2<|Zd (Z0l (s:=[b3' p0]) rfl fun b1 hb1=>Z6 rfl<|Z6 rfl<|Z1<|Z0<|Z0<|Z2<|Z6 rfl<|Z4 _ (Z8 rfl rfl rfl)<|Z6 rfl<|Z9o rfl rfl rfl (fun hg1=>Z2z rfl _ (Z0j rfl) (Z2z rfl _ (Z8 rfl rfl rfl) (Z3f))) (fun hg1=>rfl) rfl<|Z1<|Z09 h rfl (fun h=>?_) (fun h=>?_))
 ·refine Z0<|Z2<|Z6 rfl<|Z6 rfl<|Z1<|Zj ?_
  revert h; refine Zv fun h=>?_
  subst h
  exact ⟨_,_,(.cons (.tmp rfl) (.cons (.tmp rfl) .nil)),(.no .nil),⟨_,rfl,⟨(.slice none 0 0),[],rfl,rfl,Z49⟩⟩⟩
 ·refine Zh<|Z0<|bH h fun z1 e1 h=>cH h fun c1 h=>Z2<|Z6 rfl<|Z4 _ (iz e1 (Z8 rfl rfl rfl))<|Zd (Zfi (E:=(El.int .u8)) rfl rfl rfl c1 fun v9 w1 O1=>Z6 rfl<|Z1<|Z0<|Z2<|Z6 rfl<|Z1<|Z0<|Z0<|Z2<|Z6 rfl<|Z1<|jH h fun k1 q1 h=>Zg (G:=fun t m=>∃ (l1:LI) (v165:Value) (w2:List Zf),k1 l1=some r/\Z03 (El.int .u8) v165 w2 l1/\Fit [(2,.int .i64 (p2)),(8,v165)] (ck b1 23 [b3' p0]::(w2 ++ [])) t m) ?_ ?_)
  ·refine Z9<|Zm (fun n1 t m=>∃ (l2:LI) (l3:LI) (i1:Int) (v266:Value) (w3:List Zf) (v270:Value) (w4:List Zf),Z5h p0 p1 p2 k1 n1 l2 l3 i1=some r/\Z03 (El.int .u8) v266 w3 l2/\Z03 (El.int .u8) v270 w4 l3/\Fit [(1,v1),(2,.int .i64 (p2)),(3,pt' b1),(8,v266),(9,v270),(10,.int .u8 (i1))] (ck b1 23 [b3' p0]::(w3++(w4 ++ []))) t m) big ?_ ?_
   ·exact ⟨(List.replicate 0 0:LI),[],1,v9,w1,(.slice none 0 0),[],h,O1,Z49,⟨⟨rfl,rfl,rfl,rfl,rfl,rfl,trivial⟩,(.one (.app .here) (.all .here (.no .nil)))⟩⟩
   ·rintro n1 t m ⟨l2,l3,i1,v266,w3,v270,w4,h,O2,O3,hF⟩
    refine Ze hF ?_
    clear hF
    rcases n1 with _ | n1
    · exact Z07 h
    have h:Z80 p0 p1 p2 k1 (Z5h p0 p1 p2 k1 n1) l2 l3 i1=some r:=h
    unfold Z80 at h
    obtain ⟨k2,q2⟩ : ∃ k,k=Z5h p0 p1 p2 k1 n1:=⟨_,rfl⟩
    try rw [<- q2] at h
    refine Z0<|Z0<|Z2<|Z6 rfl<|Z4 _ (Z3l rfl (Shp.own O2))<|Z6 rfl<|Z4 _ (Z8 rfl rfl rfl)<|Z1<|Z09 h rfl (fun h=>?_) (fun h=>?_)
    ·refine Zh<|Z0<|Z9<|Z0<|jH h fun k3 q3 h=>Zg (G:=fun t m=>∃ (a1:LI) (b2:Nat),k3 a1=some r/\Fit [(1,v1),(2,.int .i64 (p2)),(3,pt' b1),(8,v266),(10,.int .u8 (i1)),(11,pt' b2)] (ck b2 23 [b3' a1]::(ck b1 23 [b3' p0]::(w3 ++ []))) t m) ?_ ?_
     ·refine oH h fun y1 f1 h=>oH h fun y2 f2 h=>Zt<|Z7 _ (Zf3 rfl .no .no .no (by simp) (by decide))<|Z7 _ (Z0j rfl)<|Z7 _ (Z0j rfl)<|Z7 _ (Z0j rfl)<|Zi3 (Z3i (E:=(El.int .u8)) (xs:=[i1]) (.one rfl rfl rfl BdR.nil) (.cons (p:=[.one (.int .u8 (i1))]) rfl .nil) rfl fun v298 w5 O4=>⟨(by repeat (first | exact Sup.refl _ | apply Sup.cons | apply Sup.app)),?_⟩) (Zq fun b3 hb2=>⟨(by repeat (first | exact Sup.refl _ | apply Sup.cons | apply Sup.app)),?_⟩)
      ·refine Zi3 (Z3i (E:=El.sl) (xs:=[unS v270,unS v1,unS v298]) (.one rfl (Zbg.cells (Z03.isSl O3)) rfl (.one rfl (Zbg.cells (Shp.isSl (Shp.rd A1))) rfl (.one rfl (Zbg.cells (Z03.isSl O4)) rfl BdR.nil))) (.cons (p:=[.one v270]) (Z55 (Z03.isSl O3)) (.cons (p:=[.one v1]) (Z55 (Shp.isSl (Shp.rd A1))) (.cons (p:=[.one v298]) (Z55 (Z03.isSl O4)) .nil))) rfl fun v301 w6 O5=>⟨(by repeat (first | exact Sup.refl _ | apply Sup.cons | apply Sup.app)),?_⟩) (Zq fun b3 hb2=>⟨(by repeat (first | exact Sup.refl _ | apply Sup.cons | apply Sup.app)),?_⟩)
       ·refine Zi3 (Z05 rfl (fun w hw=>Z2m  f1 (Z00 O5 .here w hw) (.cons (Z5q ((Z00 O3 (.app (.app (.there (.app .here))))) w hw)) (.cons (Z5q ((Z2k A1 Z2y) w hw)) (.cons (Z5q ((Z00 O4 (.app .here)) w hw)) .nil)))) fun v305 o1 R1=>?_) (Zq fun b3 hb2=>?_)
        ·obtain ⟨_,w7,rfl,rfl,O6⟩:=R1
         refine ⟨(by repeat (first | exact Sup.refl _ | apply Sup.cons | apply Sup.app)),Zi3 (ef_q _ (Z1a rfl (fun w hw=>Z67 f2 (hG.at hw (by simp)) ((Z6u (s:=[b3' p0]) (N:=32) (k:=.u8) (base:=0) (lo:=0) (hi:=32) (mz:=32) (.app (.app (.app .here))) rfl (by decide)) w hw) ((Z00 O6 .here) w hw))) ⟨(by repeat (first | exact Sup.refl _ | apply Sup.cons | apply Sup.app)),?_⟩) (Zq fun b3 hb2=>⟨(by repeat (first | exact Sup.refl _ | apply Sup.cons | apply Sup.app)),?_⟩)⟩
         ·exact Z47 (Zq fun b3 hb2=>⟨(by repeat (first | exact Sup.refl _ | apply Sup.cons | apply Sup.app)),Z1i rfl (Zp (q:=[b3' y2]) rfl rfl rfl rfl rfl .here (Z04 (⟨y2,b3,h,⟨⟨rfl,rfl,rfl,rfl,rfl,rfl,trivial⟩,(.o (.one (.app (.app (.app .here))) (.all (.app (.app (.app .here))) .nil)))⟩⟩)))⟩)
         ·exact Zzc _ (Z1a rfl (fun w hw=>Z67 f2 (hG.at hw (by simp)) ((Z6u (s:=[b3' p0]) (N:=32) (k:=.u8) (base:=0) (lo:=0) (hi:=32) (mz:=32) (.there (.app (.app (.app .here)))) rfl (by decide)) w hw) ((Z00 O6 .t1) w hw))) (Z1i rfl (Zp (q:=[b3' y2]) rfl rfl rfl rfl rfl .here (Z04 (⟨y2,b3,h,⟨⟨rfl,rfl,rfl,rfl,rfl,rfl,trivial⟩,(.o (.one (.app (.app (.app .here))) (.all (.app (.app (.app .here))) .nil)))⟩⟩)))) (by repeat (first | exact Sup.refl _ | apply Sup.cons | apply Sup.app))
        ·refine ⟨(by repeat (first | exact Sup.refl _ | apply Sup.cons | apply Sup.app)),Z47 (Z05 rfl (fun w hw=>Z2m  f1 (Z00 O5 .t1 w hw) (.cons (Z5q ((Z00 O3 (.there (.app (.app (.there (.app .here)))))) w hw)) (.cons (Z5q ((Z2k A1 Z2y) w hw)) (.cons (Z5q ((Z00 O4 (.there (.app .here))) w hw)) .nil)))) fun v305 o1 R1=>?_)⟩
         obtain ⟨_,w7,rfl,rfl,O6⟩:=R1
         exact ⟨(by repeat (first | exact Sup.refl _ | apply Sup.cons | apply Sup.app)),Zzc _ (Z1a rfl (fun w hw=>Z67 f2 (hG.at hw (by simp)) ((Z6u (s:=[b3' p0]) (N:=32) (k:=.u8) (base:=0) (lo:=0) (hi:=32) (mz:=32) (.app (.there (.app (.app .here)))) rfl (by decide)) w hw) ((Z00 O6 .here) w hw))) (Z1i rfl (Zp (q:=[b3' y2]) rfl rfl rfl rfl rfl (.app .here) (Z04 (⟨y2,b3,h,⟨⟨rfl,rfl,rfl,rfl,rfl,rfl,trivial⟩,(.one (.app .here) (.one (.app (.app (.app .here))) (.all (.app (.app (.app .here))) .nil)))⟩⟩)))) (by repeat (first | exact Sup.refl _ | apply Sup.cons | apply Sup.app))⟩
       ·refine Z47 (Z3i (E:=El.sl) (xs:=[unS v270,unS v1,unS v298]) (.one rfl (Zbg.cells (Z03.isSl O3)) rfl (.one rfl (Zbg.cells (Shp.isSl (Shp.rd A1))) rfl (.one rfl (Zbg.cells (Z03.isSl O4)) rfl BdR.nil))) (.cons (p:=[.one v270]) (Z55 (Z03.isSl O3)) (.cons (p:=[.one v1]) (Z55 (Shp.isSl (Shp.rd A1))) (.cons (p:=[.one v298]) (Z55 (Z03.isSl O4)) .nil))) rfl fun v301 w6 O5=>⟨(by repeat (first | exact Sup.refl _ | apply Sup.cons | apply Sup.app)),Z47 (Z05 rfl (fun w hw=>Z2m  f1 (Z00 O5 .here w hw) (.cons (Z5q ((Z00 O3 (.app (.there (.app (.there (.app .here)))))) w hw)) (.cons (Z5q ((Z2k A1 Z2y) w hw)) (.cons (Z5q ((Z00 O4 (.app .t1)) w hw)) .nil)))) fun v305 o1 R1=>?_)⟩)
        obtain ⟨_,w7,rfl,rfl,O6⟩:=R1
        exact ⟨(by repeat (first | exact Sup.refl _ | apply Sup.cons | apply Sup.app)),Zzc _ (Z1a rfl (fun w hw=>Z67 f2 (hG.at hw (by simp)) ((Z6u (s:=[b3' p0]) (N:=32) (k:=.u8) (base:=0) (lo:=0) (hi:=32) (mz:=32) (.app (.app (.there (.app .here)))) rfl (by decide)) w hw) ((Z00 O6 .here) w hw))) (Z1i rfl (Zp (q:=[b3' y2]) rfl rfl rfl rfl rfl (.app (.app .here)) (Z04 (⟨y2,b3,h,⟨⟨rfl,rfl,rfl,rfl,rfl,rfl,trivial⟩,(.one (.app (.app .here)) (.one (.app (.app (.app .here))) (.all (.app (.app (.app .here))) .nil)))⟩⟩)))) (by repeat (first | exact Sup.refl _ | apply Sup.cons | apply Sup.app))⟩
      ·refine Z47 (Z3i (E:=(El.int .u8)) (xs:=[i1]) (.one rfl rfl rfl BdR.nil) (.cons (p:=[.one (.int .u8 (i1))]) rfl .nil) rfl fun v298 w5 O4=>⟨(by repeat (first | exact Sup.refl _ | apply Sup.cons | apply Sup.app)),Z47 (Z3i (E:=El.sl) (xs:=[unS v270,unS v1,unS v298]) (.one rfl (Zbg.cells (Z03.isSl O3)) rfl (.one rfl (Zbg.cells (Shp.isSl (Shp.rd A1))) rfl (.one rfl (Zbg.cells (Z03.isSl O4)) rfl BdR.nil))) (.cons (p:=[.one v270]) (Z55 (Z03.isSl O3)) (.cons (p:=[.one v1]) (Z55 (Shp.isSl (Shp.rd A1))) (.cons (p:=[.one v298]) (Z55 (Z03.isSl O4)) .nil))) rfl fun v301 w6 O5=>⟨(by repeat (first | exact Sup.refl _ | apply Sup.cons | apply Sup.app)),Z47 (Z05 rfl (fun w hw=>Z2m  f1 (Z00 O5 .here w hw) (.cons (Z5q ((Z00 O3 (.app (.app (.there (.there (.app .here)))))) w hw)) (.cons (Z5q ((Z2k A1 Z2y) w hw)) (.cons (Z5q ((Z00 O4 (.app .here)) w hw)) .nil)))) fun v305 o1 R1=>?_)⟩)⟩)
       obtain ⟨_,w7,rfl,rfl,O6⟩:=R1
       exact ⟨(by repeat (first | exact Sup.refl _ | apply Sup.cons | apply Sup.app)),Zzc _ (Z1a rfl (fun w hw=>Z67 f2 (hG.at hw (by simp)) ((Z6u (s:=[b3' p0]) (N:=32) (k:=.u8) (base:=0) (lo:=0) (hi:=32) (mz:=32) (.app (.app (.app .t1))) rfl (by decide)) w hw) ((Z00 O6 .here) w hw))) (Z1i rfl (Zp (q:=[b3' y2]) rfl rfl rfl rfl rfl (.app (.app (.app .here))) (Z04 (⟨y2,b3,h,⟨⟨rfl,rfl,rfl,rfl,rfl,rfl,trivial⟩,(.one (.app (.app (.app .here))) (.one (.app (.app (.app .here))) (.all (.app (.app (.app .here))) .nil)))⟩⟩)))) (by repeat (first | exact Sup.refl _ | apply Sup.cons | apply Sup.app))⟩
     ·rintro t m ⟨a1,b2,h,hF⟩
      refine Ze hF ?_
      clear hF
      subst q3
      refine Z0<|Z2<|Z4 _ (Zf3 rfl .no .no .no (by simp) (by decide))<|Z6 rfl<|Z1<|cH h fun c2 h=>bH h fun l4 g1 h=>Z2<|Z6 rfl<|Z6 rfl<|Zd (Z1m (E:=(El.int .u8)) g1 rfl O2 .t2 rfl (Z6u (s:=[b3' a1]) (N:=32) (k:=.u8) (base:=0) (lo:=0) (hi:=32) (mz:=32) .here rfl (by decide)) c2 fun v316 w8 O7=>Z6 rfl<|Z1<|bH h fun z2 e2 h=>Z2<|Z6 rfl<|Z4 _ (iz e2 (Z8 rfl rfl rfl))<|Z6 rfl<|Z1 ?_)
      rw [q2] at h
      exact ⟨n1,Nat.lt_succ_self _,l4,(tk a1 0 32),z2,v316,w8,(.slice (some (Z54 b2 0 0 32 1)) (32-0) (32-0)),[ck b2 23 [b3' a1]],h,O7,(Zjh (s:=[b3' a1]) (N:=32) (k:=.u8) (base:=0) (lo:=0) (hi:=32) (mz:=32) rfl (by decide)),⟨⟨rfl,rfl,rfl,rfl,rfl,rfl,trivial⟩,(.one (.app .t1) (.all .here (.oneA .here .nil)))⟩⟩
    ·exact Zs _ rfl<|⟨l2,v266,w3,h,O2,⟨⟨rfl,rfl,trivial⟩,(.o (.all .here .nil))⟩⟩
  ·rintro t m ⟨l1,v165,w2,h,O8,hF⟩
   refine Ze hF ?_
   clear hF
   subst q1
   refine Z0<|cH h fun c3 h=>Z2<|Z6 rfl<|Z6 rfl<|Z6 rfl<|Z4 _ (Z0b4 O8 rfl (.yes rfl) (.yes rfl) c3)<|Z6 rfl<|Z6 rfl<|Z1<|Zj ?_
   revert h; refine Zv fun h=>?_
   subst h
   exact ⟨_,_,(.cons (.tmp rfl) (.cons (.tmp rfl) .nil)),(.all .t1 .nil),⟨_,rfl,⟨(cap3 v165 (p2).toNat),w2,rfl,rfl,(Zy1 (xs:=l1) O8 (Zzf c3))⟩⟩⟩
def Z9w (p0:LI) (p1:ByteArray) (p2:Int):Option ((LI)×Bool) :=
 br ((((decide ((p1.size:Int)>32))||(decide (p2<0)))||(decide (p2>2147483647)))) (
 bnd (([0,0,0,0,0,0,0,0,0,0,0,0,0,0,0,0,0,0,0,0,0,0,0,0,0,0,0,0,0,0,0,0]:LI)) fun z1 =>
 some (z1,false)
 ) (
 bnd (wrap .u64 p2) fun z2 =>
 opt (Z1o z2) fun y1 =>
 opt (Z5n ([(Zt4 p1),([0]:LI),y1])) fun y2 =>
 opt (Zbl p0 y2 32) fun y3 =>
 bnd (wr (List.replicate 32 0) 0 (y3.1.take 32)) fun l1 =>
 some (l1,true)
 )
theorem Zjd {W:World} {r:(LI)×Bool} {p0:LI} {p1:ByteArray} {p2:Int} (h:Z9w p0 p1 p2=some r) (hG:Globs W) :
    Calls Tryz.prog 63 [agg [b3' p0],.string (p1),.int .i64 (p2)].toArray W (Z34 W (.tuple #[agg [b3' r.1],.bool (r.2)])):=by
 unfold Z9w at h
 refine Zc mo ok63 rfl ?_
 refine Z0<|Z2<|Zd (Z0l (s:=[b3' p0]) rfl fun b1 u1=>Zd (Zq fun b2 u2=>Z6 rfl<|Z1<|Z0<|Z0<|Z2<|Z6 rfl<|Z4 _ (Zv3 rfl)<|Z4 _ (Z8 rfl rfl rfl)<|Z6 rfl<|Z9o rfl rfl rfl (fun hg1=>Z2z rfl _ (Z0j rfl) (Z2z rfl _ (Z8 rfl rfl rfl) (Z3f))) (fun hg1=>rfl) rfl<|Z6 rfl<|Z9o rfl rfl rfl (fun hg1=>Z2z rfl _ (Z0j rfl) (Z2z rfl _ (Z8 rfl rfl rfl) (Z3f))) (fun hg1=>rfl) rfl<|Z1<|Z09 h rfl (fun h=>?_) (fun h=>?_)))
 ·refine Z0<|bH h fun z1 e1 h=>Z2<|Z4 _ (az (fun z=>agg [.ints .u8 32 z]) e1 (Zd2 BdR.nil))<|Zd (Zp (q:=[b3' z1]) rfl rfl rfl rfl rfl .here<|Z6 rfl<|Z1<|Zj ?_)
  revert h; refine Zv fun h=>?_
  subst h
  exact ⟨_,(.cons (.agg rfl .here rfl) (.cons (.tmp rfl) .nil)),rfl⟩
 ·refine Zh<|Z0<|bH h fun z2 e2 h=>oH h fun y1 f1 h=>oH h fun y2 f2 h=>Z2<|Z6 rfl<|Zd (Z04q rfl fun v9 w1 H11 Z12=>Zd (Z3i (E:=(El.int .u8)) (xs:=[0]) (.one rfl rfl rfl BdR.nil) (.cons (p:=[.one (.int .u8 (0))]) rfl .nil) rfl fun v13 w2 O1=>Z6 rfl<|Z4 _ (iz e2 (Z33 rfl))<|Zd (Z05 rfl (fun w hw=>Z2h  f1 ) fun v18 o1 R1=>?_)))
  obtain ⟨_,w3,rfl,rfl,O2⟩:=R1
  refine Zd (Z3i (E:=El.sl) (xs:=[unS v9,unS v13,unS v18]) (.one rfl (Zbg.cells (Shp.isSl Z12)) rfl (.one rfl (Zbg.cells (Z03.isSl O1)) rfl (.one rfl (Zbg.cells (Z03.isSl O2)) rfl BdR.nil))) (.cons (p:=[.one v9]) (Z55 (Shp.isSl Z12)) (.cons (p:=[.one v13]) (Z55 (Z03.isSl O1)) (.cons (p:=[.one v18]) (Z55 (Z03.isSl O2)) .nil))) rfl fun v23 w4 O3=>Zd (Z05 rfl (fun w hw=>Z2m  f2 (Z00 O3 .here w hw) (.cons (Z5q ((Zvd H11 (.app (.app (.app .here)))) w hw)) (.cons (Z5q ((Z00 O1 (.app (.app .here))) w hw)) (.cons (Z5q ((Z00 O2 (.app .here)) w hw)) .nil)))) fun v27 o2 R2=>?_))
  obtain ⟨_,w5,rfl,rfl,O4⟩:=R2
  refine Z6 rfl<|Z1<|Z0<|oH h fun y3 f3 h=>Z2<|Z4 _ (Z02 (p:=[b3' p0]) rfl (.app (.app (.app (.app (.app .t1))))) rfl)<|Z6 rfl<|Zd (Z05 rfl (fun w hw=>Zje  f3 (hG.at hw (by simp)) ((Z00 O4 .here) w hw)) fun v34 o3 R3=>?_)
  obtain ⟨v36,w6,rfl,rfl,O5⟩:=R3
  refine Z6 rfl<|Z4 _ (Z40 rfl rfl)<|Z4 _ (Z40 rfl rfl)<|Z6 rfl<|Z6 rfl<|Z1<|Z0<|Z2<|Zd (Zq fun b3 u3=>Z1<|Z0<|bH h fun l1 g1 h=>Z2<|Z4 _ (Zf3 rfl .no .no .no (by simp) (by decide))<|Z6 rfl<|Zd (Zj3 (q:=[b3' l1]) (lo:=0) (hi:=32) (mz:=32) (base:=0) (cpy0 g1) rfl rfl (Z00 O5 .t1) rfl (by decide) rfl .here<|Z1<|Z0<|Z2<|Z4 _ (Z02 (p:=[b3' l1]) rfl .here rfl)<|Zd (Zp (q:=[b3' l1]) rfl rfl rfl rfl rfl (.there (.app (.app (.app (.app (.app (.app .here)))))))<|Z6 rfl<|Z1<|Zj ?_)))
  revert h; refine Zv fun h=>?_
  subst h
  exact ⟨_,(.cons (.agg rfl (.there (.app (.app (.app (.app (.app (.app .here))))))) rfl) (.cons (.tmp rfl) .nil)),rfl⟩
def Zat (p0:Zz) (p1:Int):Option ((LI)×Bool) :=
 opt (Z8l p0) fun y1 =>
 chk (imp (!(y1 != 0)) ((Z2e p1 0 (wrap .i64 (p0.gGates+p0.gWallets))).isSome)) <|
 br (((y1 != 0)||(!((Z2e p1 0 (wrap .i64 (p0.gGates+p0.gWallets))).getD false)))) (
 bnd (([0,0,0,0,0,0,0,0,0,0,0,0,0,0,0,0,0,0,0,0,0,0,0,0,0,0,0,0,0,0,0,0]:LI)) fun z1 =>
 some (z1,false)
 ) (
 opt (Z9w p0.gSecret (⟨#[110,111,100,101]⟩:ByteArray) p1) fun y2 =>
 some (y2.1,y2.2)
 )
theorem Zfd {W:World} {r:(LI)×Bool} {p0:Zz} {p1:Int} (h:Zat p0 p1=some r) (hG:Globs W) :
    Calls Tryz.prog 19 [agg [.one (.int .i64 (p0.gGates)),.one (.int .i64 (p0.gWallets)),.one (.int .i64 (p0.gRows)),.one (.int .i64 (p0.gFlash)),.one (.int .i64 (p0.gSerials)),b3' p0.gSecret],.int .i64 (p1)].toArray W (Z34 W (.tuple #[agg [b3' r.1],.bool (r.2)])):=by
 unfold Zat at h
 refine Zc mo ok19 rfl ?_
 refine Z0<|Z2<|Zd (Z0l (s:=[.one (.int .i64 (p0.gGates)),.one (.int .i64 (p0.gWallets)),.one (.int .i64 (p0.gRows)),.one (.int .i64 (p0.gFlash)),.one (.int .i64 (p0.gSerials)),b3' p0.gSecret]) rfl fun b1 u1=>Zd (Zq fun b2 u2=>Z6 rfl<|Z1<|Z0<|Z0<|oH h fun y1 f1 h=>cH h fun c1 h=>Z2<|Z4 _ (Z02 (p:=[.one (.int .i64 (p0.gGates)),.one (.int .i64 (p0.gWallets)),.one (.int .i64 (p0.gRows)),.one (.int .i64 (p0.gFlash)),.one (.int .i64 (p0.gSerials)),b3' p0.gSecret]) rfl .t1 rfl)<|Z4 _ (Z0h rfl (Zas f1))<|Z4 _ (Z8 rfl rfl rfl)<|Z6 rfl<|Z9o rfl rfl rfl (fun hg1=>Z2z rfl _ (Z0j rfl) (Z2z rfl _ (Z2l rfl) (Z2z rfl _ (Z0c rfl .t1 rfl) (Z2z rfl _ (Z2l rfl) (Z2z rfl _ (Z0c rfl .t1 rfl) (Z2z rfl _ (iz rfl (Z8 rfl rfl rfl)) (Z2z rfl _ (Z1a rfl (fun _ _=>Z4c (getD_some (z:=false) (Z01r c1 hg1)))) (Z2z rfl _ (Zv4 rfl rfl) (Z3f))))))))) (fun hg1=>rfl) rfl<|Z1<|Z09 h rfl (fun h=>?_) (fun h=>?_)))
 ·refine Z0<|bH h fun z1 e1 h=>Z2<|Z4 _ (az (fun z=>agg [.ints .u8 32 z]) e1 (Zd2 BdR.nil))<|Zd (Zp (q:=[b3' z1]) rfl rfl rfl rfl rfl .here<|Z6 rfl<|Z1<|Zj ?_)
  revert h; refine Zv fun h=>?_
  subst h
  exact ⟨_,(.cons (.agg rfl .here rfl) (.cons (.tmp rfl) .nil)),rfl⟩
 ·refine Zh<|Z0<|oH h fun y2 f2 h=>Z2<|Z4 _ (Z2l rfl)<|Z4 _ (Z02 (p:=[b3' p0.gSecret]) rfl .t1 rfl)<|Z6 rfl<|Z4 _ (Z1a rfl (fun w hw=>Zjd (p1:=(⟨#[110,111,100,101]⟩:ByteArray)) f2 (hG.at hw (by simp))))<|Z4 _ (Z40 rfl rfl)<|Z4 _ (Z40 rfl rfl)<|Zd (Zp (q:=[b3' y2.1]) rfl rfl rfl rfl rfl .here<|Z6 rfl<|Z1<|Zj ?_)
  revert h; refine Zv fun h=>?_
  subst h
  exact ⟨_,(.cons (.agg rfl .here rfl) (.cons (.tmp rfl) .nil)),rfl⟩
def Zh9 (p0:Int) (k1:(LI)->OL) (k2:(LI)->Int->OL) (l1:LI) (i1:Int):OL :=
 br ((decide (i1<8))) (
 bnd (wrap .i64 (8*i1)) fun z1 =>
 bnd (wrap .i64 (56-z1)) fun z2 =>
 bnd (wrap .u64 z2) fun z3 =>
 chk (decide (0<=z3)) <|
 bnd (Z0f .u64 p0 z3) fun z4 =>
 bnd (wrap .u8 z4) fun z5 =>
 chk (decide ((l1.length+([z5]:LI).length)*1<=140737488355328)) <|
 bnd (l1++([z5]:LI)) fun l2 =>
 bnd (wrap .i64 (i1+1)) fun z6 =>
 k2 l2 z6
 ) (
 k1 l1
 )
def Zbu (p0:Int) (k1:(LI)->OL):Nat->(LI)->Int->OL
  | 0,_,_=>none
  | n+1,l1,i1=>Zh9 p0 k1 (Zbu p0 k1 n) l1 i1
def Zfo (p0:Int):OL :=
 jn (fun (l1:LI)=>some l1) fun k1=>Zbu p0 k1 big [] 0
theorem Zdy {W:World} {r:(LI)} {p0:Int} (h:Zfo p0=some r)  :
    Calls Tryz.prog 111 [.int .u64 (p0)].toArray W (Zd9 W [] (fun v Ms=>∃ (u0:Value) (M1:List Zf),v=u0/\Ms = [.all M1]/\Z03 (El.int .u8) u0 M1 r)):=by
 unfold Zfo at h
 refine Z0e mo Z0j4 rfl (Zgt _) ?_
 refine Z0<|Z2<|Z6 rfl<|Z1<|Z0<|Z2<|Z6 rfl<|Z1<|Z0<|Z0<|Z2<|Z6 rfl<|Z1<|jH h fun k1 q1 h=>Zg (G:=fun t m=>∃ (l1:LI) (v70:Value) (w1:List Zf),k1 l1=some r/\Z03 (El.int .u8) v70 w1 l1/\Fit [(3,v70)] (w1 ++ []) t m) ?_ ?_
 ·refine Z9<|Zm (fun n1 t m=>∃ (l2:LI) (i1:Int) (v114:Value) (w2:List Zf),Zbu p0 k1 n1 l2 i1=some r/\Z03 (El.int .u8) v114 w2 l2/\Fit [(0,.int .u64 (p0)),(3,v114),(4,.int .i64 (i1))] (w2 ++ []) t m) big ?_ ?_
  ·exact ⟨[],0,(.slice none 0 0),[],h,Z49,⟨⟨rfl,rfl,rfl,trivial⟩,(.no .nil)⟩⟩
  ·rintro n1 t m ⟨l2,i1,v114,w2,h,O1,hF⟩
   refine Ze hF ?_
   clear hF
   rcases n1 with _ | n1
   · exact Z07 h
   have h:Zh9 p0 k1 (Zbu p0 k1 n1) l2 i1=some r:=h
   unfold Zh9 at h
   obtain ⟨k2,q2⟩ : ∃ k,k=Zbu p0 k1 n1:=⟨_,rfl⟩
   try rw [<- q2] at h
   refine Z0<|Z0<|Z2<|Z6 rfl<|Z4 _ (Z8 rfl rfl rfl)<|Z1<|Z09 h rfl (fun h=>?_) (fun h=>?_)
   ·refine Zh<|Z0<|Z9<|Z0<|bH h fun z1 e1 h=>bH h fun z2 e2 h=>bH h fun z3 e3 h=>Z2<|Z6 rfl<|Z4 _ (iz e1 (Z8 rfl rfl rfl))<|Z4 _ (iz e2 (Z8 rfl rfl rfl))<|Z4 _ (iz e3 (Z33 rfl))<|Z6 rfl<|Z1<|cH h fun c1 h=>bH h fun z4 e4 h=>bH h fun z5 e5 h=>cH h fun c2 h=>bH h fun l3 g1 h=>Z2<|Z6 rfl<|Z6 rfl<|Z6 rfl<|Z4 _ (iz e4 (Z48 rfl rfl (of_decide_eq_true c1)))<|Z4 _ (iz e5 (Z33 rfl))<|Zd (Z3i (E:=(El.int .u8)) (xs:=[z5]) (.one rfl rfl rfl BdR.nil) (.cons (p:=[.one (.int .u8 (z5))]) rfl .nil) rfl fun v131 w3 O2=>Zd (Z1m (E:=(El.int .u8)) g1 rfl O1 (.app .here) rfl (Z00 O2 .here) c2 fun v136 w4 O3=>Z6 rfl<|Z1<|bH h fun z6 e6 h=>Z2<|Z6 rfl<|Z4 _ (iz e6 (Z8 rfl rfl rfl))<|Z6 rfl<|Z1 ?_))
    rw [q2] at h
    exact ⟨n1,Nat.lt_succ_self _,l3,z6,v136,w4,h,O3,⟨⟨rfl,rfl,rfl,trivial⟩,(.all .here .nil)⟩⟩
   ·exact Zs _ rfl<|⟨l2,v114,w2,h,O1,⟨⟨rfl,trivial⟩,(.all .here .nil)⟩⟩
 ·rintro t m ⟨l1,v70,w1,h,O4,hF⟩
  refine Ze hF ?_
  clear hF
  subst q1
  refine Z0<|Z2<|Z6 rfl<|Z6 rfl<|Z1<|Zj ?_
  revert h; refine Zv fun h=>?_
  subst h
  exact ⟨_,_,(.cons (.tmp rfl) .nil),(.all .here .nil),⟨_,rfl,⟨v70,w1,rfl,rfl,O4⟩⟩⟩
def Zdv (z1:Int) (k1:(LI)->OL) (k2:(LI)->OL) (l1:LI):OL :=
 bnd (wrap .i64 (z1+(l1.length:Int))) fun z2 =>
 bnd (wrap .i64 (z2+16)) fun z3 =>
 bnd (Int.tmod z3 128) fun z4 =>
 br ((z4 != 0)) (
 chk (decide ((l1.length+([0]:LI).length)*1<=140737488355328)) <|
 bnd (l1++([0]:LI)) fun l2 =>
 k2 l2
 ) (
 k1 l1
 )
def Z99 (z1:Int) (k1:(LI)->OL):Nat->(LI)->OL
  | 0,_=>none
  | n+1,l1=>Zdv z1 k1 (Z99 z1 k1 n) l1
def Zo2 (p0:Int):OL :=
 bnd (Int.tmod p0 128) fun z1 =>
 bnd (wrap .i64 z1) fun z2 =>
 jn (fun (l1:LI)=>bnd (wrap .u64 (Int.tdiv p0 2305843009213693952)) fun z3 =>
 opt (Zfo z3) fun y1 =>
 chk (decide ((l1.length+y1.length)*1<=140737488355328)) <|
 bnd (l1++y1) fun l2 =>
 bnd (wrap .u64 (p0*8)) fun z4 =>
 opt (Zfo z4) fun y2 =>
 chk (decide ((l2.length+y2.length)*1<=140737488355328)) <|
 bnd (l2++y2) fun l3 =>
 some l3) fun k1=>Z99 z2 k1 big ([128]:LI)
theorem Zpx {W:World} {r:(LI)} {p0:Int} (h:Zo2 p0=some r)  :
    Calls Tryz.prog 109 [.int .u64 (p0)].toArray W (Zd9 W [] (fun v Ms=>∃ (u0:Value) (M1:List Zf),v=u0/\Ms = [.all M1]/\Z03 (El.int .u8) u0 M1 r)):=by
 unfold Zo2 at h
 refine Z0e mo Z0j2 rfl (Zgt _) ?_
 refine Z0<|Z2<|Z6 rfl<|Z1<|Z0<|Z2<|Zd (Z3i (E:=(El.int .u8)) (xs:=[128]) (.one rfl rfl rfl BdR.nil) (.cons (p:=[.one (.int .u8 (128))]) rfl .nil) rfl fun v3 w1 O1=>Z6 rfl<|Z1<|Z0<|bH h fun z1 e1 h=>bH h fun z2 e2 h=>Z2<|Z6 rfl<|Z4 _ (iz e1 (Z8c rfl rfl (by decide)))<|Z4 _ (iz e2 (Z33 rfl))<|Z6 rfl<|Z1<|Z0<|jH h fun k1 q1 h=>Zg (G:=fun t m=>∃ (l1:LI) (v61:Value) (w2:List Zf),k1 l1=some r/\Z03 (El.int .u8) v61 w2 l1/\Fit [(0,.int .u64 (p0)),(3,v61)] (w2 ++ []) t m) ?_ ?_)
 ·refine Z9<|Zm (fun n1 t m=>∃ (l2:LI) (v98:Value) (w3:List Zf),Z99 z2 k1 n1 l2=some r/\Z03 (El.int .u8) v98 w3 l2/\Fit [(0,.int .u64 (p0)),(3,v98),(4,.int .i64 (z2))] (w3 ++ []) t m) big ?_ ?_
  ·exact ⟨([128]:LI),v3,w1,h,O1,⟨⟨rfl,rfl,rfl,trivial⟩,(.all .here .nil)⟩⟩
  ·rintro n1 t m ⟨l2,v98,w3,h,O2,hF⟩
   refine Ze hF ?_
   clear hF
   rcases n1 with _ | n1
   · exact Z07 h
   have h:Zdv z2 k1 (Z99 z2 k1 n1) l2=some r:=h
   unfold Zdv at h
   obtain ⟨k2,q2⟩ : ∃ k,k=Z99 z2 k1 n1:=⟨_,rfl⟩
   try rw [<- q2] at h
   refine Z0<|Z0<|bH h fun z3 e3 h=>bH h fun z4 e4 h=>bH h fun z5 e5 h=>Z2<|Z6 rfl<|Z6 rfl<|Z4 _ (Z3l rfl (Shp.own O2))<|Z4 _ (iz e3 (Z8 rfl rfl rfl))<|Z4 _ (iz e4 (Z8 rfl rfl rfl))<|Z4 _ (iz e5 (Z8c rfl rfl (by decide)))<|Z4 _ (Z8 rfl rfl rfl)<|Z1<|Z09 h rfl (fun h=>?_) (fun h=>?_)
   ·refine Zh<|Z9<|cH h fun c1 h=>bH h fun l3 g1 h=>Z2<|Z6 rfl<|Zd (Z3i (E:=(El.int .u8)) (xs:=[0]) (.one rfl rfl rfl BdR.nil) (.cons (p:=[.one (.int .u8 (0))]) rfl .nil) rfl fun v110 w4 O3=>Zd (Z1m (E:=(El.int .u8)) g1 rfl O2 (.app .here) rfl (Z00 O3 .here) c1 fun v115 w5 O4=>Z6 rfl<|Z1 ?_))
    rw [q2] at h
    exact ⟨n1,Nat.lt_succ_self _,l3,v115,w5,h,O4,⟨⟨rfl,rfl,rfl,trivial⟩,(.all .here .nil)⟩⟩
   ·exact Zs _ rfl<|⟨l2,v98,w3,h,O2,⟨⟨rfl,rfl,trivial⟩,(.all .here .nil)⟩⟩
 ·rintro t m ⟨l1,v61,w2,h,O5,hF⟩
  refine Ze hF ?_
  clear hF
  subst q1
  refine Z0<|bH h fun z6 e6 h=>oH h fun y1 f1 h=>cH h fun c2 h=>bH h fun l4 g2 h=>Z2<|Z6 rfl<|Z6 rfl<|Z4 _ (iz e6 (Zbf rfl rfl (by decide)))<|Zd (Z05 rfl (fun w hw=>Zdy  f1 ) fun v121 o1 R1=>?_)
  obtain ⟨_,w6,rfl,rfl,O6⟩:=R1
  refine Zd (Z1m (E:=(El.int .u8)) g2 rfl O5 (.app .here) rfl (Z00 O6 .here) c2 fun v128 w7 O7=>Z6 rfl<|Z1<|Z0<|bH h fun z7 e7 h=>oH h fun y2 f2 h=>cH h fun c3 h=>bH h fun l5 g3 h=>Z2<|Z6 rfl<|Z6 rfl<|Z4 _ (iz e7 (Z8 rfl rfl rfl))<|Zd (Z05 rfl (fun w hw=>Zdy  f2 ) fun v134 o2 R2=>?_))
  obtain ⟨_,w8,rfl,rfl,O8⟩:=R2
  refine Zd (Z1m (E:=(El.int .u8)) g3 rfl O7 (.app .here) rfl (Z00 O8 .here) c3 fun v141 w9 O9=>Z6 rfl<|Z1<|Zj ?_)
  revert h; refine Zv fun h=>?_
  subst h
  exact ⟨_,_,(.cons (.tmp rfl) .nil),(.all .here .nil),⟨_,rfl,⟨v141,w9,rfl,rfl,O9⟩⟩⟩
end Go.Proofs.YtiflckckekjbnaaGreatDoor
