/- Texts of a proof, one behind the other: S2 S3 SZ SB L1 L2 L3 L4 L5. -/
import Derived.Test.YteefpkhngighgaaGreatDoorMB2
import Derived.Test.YteefpkhngighgaaGreatDoorProg
namespace Go.Proofs.YteefpkhngighgaaGreatDoor
open Go Go.Sx Go.RowKit
open List (replicate)
set_option linter.all false
set_option maxHeartbeats 400000
set_option maxRecDepth 100000
def Z0g7:LJ:=[jm 9 4,oj 10 (.sla 64 1 1 none none none),jm 11 4,jb 12 .mul (ci 8) 11,jc 13 344 [10,12],jm 8 13,je 14 8 0,je 15 8 1,ji 16 8 1 3 9,js' 1 16 14]
def Z0ar:IC:=(.sq [jm 7 5,jm 4 7] (.ops Z0g7))
def Z0cg:IC:=(.sq [jb 6 .lss 5 (ci 8)] (.seq (.cond 6 .skip (.exit 0)) (.seq (.block 1 Z0ar) (.ops [jb 17 .add 5 (ci 1),jm 5 17]))))
def Z0aq:IC:=(.loop Z0cg)
def d303:FnD:=⟨21,[.cell 2 32 true],(.sq [jx 1 212 0,ja 2 118 [.ints .u8 32 (replicate 32 0)]] (.sq [ja 3 379 [.ints .u64 8 (replicate 8 0)]] (.seq (.sq [jm 5 (ci 0)] (.block 0 Z0aq)) (.sq [oj 18 (.sla 8 1 3 none none none),jc 19 346 [18],jc 20 345 [19],js' 32 2 20] .ret))))⟩
theorem Z0nz:okF Tryz.prog 303 d303=true:=by kernel_rfl
def Z0a1:IC:=(.sq [ji' 11 1 7 9,jl 12 1 false 11,jm 5 12] (.ops [jm 13 3,jm 14 5,jc 15 223 [13,14]]))
def Z0c3:IC:=(.sq [jb 10 .lss 9 8] (.seq (.cond 10 .skip (.exit 0)) (.seq (.block 1 Z0a1) (.ops [jb 16 .add 9 (ci 1),jm 9 16]))))
def Z0a0:IC:=(.loop Z0c3)
def d204:FnD:=⟨20,[.cell 2 32 true],(.sq [ja 2 118 [.ints .u8 32 (replicate 32 0)]] (.sq [jc 6 222 [],jm 3 6] (.seq (.sq [jm 7 0,jn' 8 7,jm 9 (ci 0)] (.block 0 Z0a0)) (.sq [jm 17 3,jc 18 224 [17],jc 19 303 [18],js' 32 2 19] .ret))))⟩
theorem Z0me:okF Tryz.prog 204 d204=true:=by kernel_rfl
def Z0gn:Sch:=(.Q 0 (jl 3 32 true 1) (.P 1 (jc 4 236 [3]) (.P 2 (jc 5 114 [4]) (.Q 3 (jl 6 32 true 1) (.P 4 (oj 7 (.eqa false [(.i .u8,32)] 5 6)) (.P 5 (jm 2 7) .nil))))))
def d330:FnD:=⟨8,[.tmp 2],(.sq [jx 1 22 0,jm 2 (.const (.bool false))] (.seq (.draw Z0gn []) .ret))⟩
theorem Z0oj:okF Tryz.prog 330 d330=true:=by kernel_rfl
def Z0gu:LJ:=[jl 3 5 true 1,jc 4 227 [3],jd 5 [.ints .u64 5 (replicate 5 0)] [],oj 6 (.eqa false [(.i .u64,5)] 4 5),jm 2 6]
def d333:FnD:=⟨7,[.tmp 2],(.sq [jx 1 124 0,jm 2 (.const (.bool false))] (.sq Z0gu .ret))⟩
theorem Z0om:okF Tryz.prog 333 d333=true:=by kernel_rfl
def Z0hc:Sch:=(.Q 0 (jl 5 5 true 2) (.P 1 (jc 6 227 [5]) (.Q 2 (jl 7 5 true 3) (.P 3 (jc 8 227 [7]) (.P 4 (oj 9 (.eqa false [(.i .u64,5)] 6 8)) (.P 5 (jm 4 9) .nil))))))
def d356:FnD:=⟨10,[.tmp 4],(.sq [jx 2 124 0,jx 3 124 1,jm 4 (.const (.bool false))] (.seq (.draw Z0hc []) .ret))⟩
theorem Z0p4:okF Tryz.prog 356 d356=true:=by kernel_rfl
def d357:FnD:=⟨12,[.cell 6 5 true],(.sq [jx 4 124 1,jx 5 124 2,ja 6 124 [.ints .u64 5 (replicate 5 0)]] (.seq (.sq [jm 7 0] (.cond 7 (.sq [jl 8 5 true 4,jc 9 227 [8],js' 5 6 9] .ret) .skip)) (.sq [jl 10 5 true 5,jc 11 227 [10],js' 5 6 11] .ret)))⟩
theorem Z0p5:okF Tryz.prog 357 d357=true:=by kernel_rfl
def Z0go:Sch:=(.Q 0 (jl 15 5 true 3) (.P 1 (jc 16 324 [15]) (.Q 2 (jl 17 5 true 3) (.P 3 (jc 18 115 [16,17]) (.e 4 (oi 6 (.al 124 [.ints .u64 5 (replicate 5 0)])) (.e 5 (jo' 5 6 18) .nil))))))
def Z0gp:Sch:=(.Q 0 (jl 19 5 true 2) (.Q 1 (jl 20 5 true 6) (.P 2 (jc 21 324 [20]) (.P 3 (jc 22 115 [19,21]) (.Q 4 (jl 23 5 true 3) (.P 5 (jc 24 115 [22,23]) (.e 6 (oi 7 (.al 124 [.ints .u64 5 (replicate 5 0)])) (.e 7 (jo' 5 7 24) .nil))))))))
def Z0gq:Sch:=(.Q 0 (jl 25 5 true 2) (.Q 1 (jl 26 5 true 6) (.P 2 (jc 27 115 [25,26]) (.P 4 (jc 29 226 [(c8 253),(c8 15)]) (.Q 3 (jl 28 5 true 7) (.P 5 (jc 30 225 [28,29]) (.P 6 (jc 31 115 [27,30]) (.e 7 (oi 8 (.al 124 [.ints .u64 5 (replicate 5 0)])) (.e 8 (jo' 5 8 31) .nil)))))))))
def Z0gr:Sch:=(.Q 0 (jl 32 5 true 3) (.Q 1 (jl 33 5 true 8) (.P 2 (jc 34 324 [33]) (.P 3 (jc 35 115 [32,34]) (.e 4 (oi 9 (.al 124 [.ints .u64 5 (replicate 5 0)])) (.e 5 (jo' 5 9 35) .nil))))))
def Z0gs:Sch:=(.Q 0 (jl 42 5 true 9) (.Q 1 (jl 43 5 true 2) (.P 2 (jc 44 334 [43]) (.P 3 (jc 45 356 [42,44]) (.P 4 (jm 41 45) .nil)))))
def Z06z:Sch:=(.P 1 (jc 47 323 [(cu 2)]) (.P 2 (jc 48 226 [(c8 251),(c8 31)]) (.P 3 (jc 49 225 [47,48]) (.Q 0 (jl 46 5 true 8) (.P 4 (jc 50 115 [46,49]) (.e 5 (jo' 5 8 50) .nil))))))
def Z0ay:IC:=(.sq [jl 38 5 true 9,jl 39 5 true 2,jc 40 356 [38,39],jm 37 40] (.cond 37 .skip (.seq (.draw Z0gs []) (.cond 41 (.draw Z06z [5]) (.sq [jd 36 [.ints .u64 5 (replicate 5 0)] [],js' 5 4 36,jm 5 (.const (.bool false))] .ret)))))
def Z070:Sch:=(.Q 0 (jl 51 5 true 8) (.P 1 (jc 52 116 [51]) (.Q 2 (jl 53 5 true 8) (.P 3 (jc 54 334 [53]) (.Q 4 (jl 55 5 true 8) (.P 5 (jc 56 357 [52,54,55]) (.e 6 (jo' 5 4 56) (.P 7 (jm 5 (.const (.bool true))) .nil))))))))
def d331:FnD:=⟨57,[.cell 4 5 true,.tmp 5],(.sq [jx 2 124 0,jx 3 124 1,ja 4 124 [.ints .u64 5 (replicate 5 0)],jm 5 (.const (.bool false))] (.seq (.sq [jl 10 5 true 3,jc 11 333 [10]] (.cond 11 (.sq [jd 12 [.ints .u64 5 (replicate 5 0)] [],jl 13 5 true 2,jc 14 333 [13],js' 5 4 12,jm 5 14] .ret) .skip)) (.seq (.draw Z0go [5]) (.seq (.draw Z0gp [7]) (.seq (.draw Z0gq [8]) (.seq (.seq (.draw Z0gr [5]) (.block 0 Z0ay)) (.seq (.draw Z070 [6]) .ret)))))))⟩
theorem Z0ok:okF Tryz.prog 331 d331=true:=by kernel_rfl
def Z0gt:LJ:=[jd 1 [.ints .u64 5 (replicate 5 0)] [(0,1,(cu 929955233495203)),(1,1,(cu 466365720129213)),(2,1,(cu 1662059464998953)),(3,1,(cu 2033849074728123)),(4,1,(cu 1442794654840575))],js' 5 0 1]
def d332:FnD:=⟨2,[.cell 0 5 true],(.sq [ja 0 124 [.ints .u64 5 (replicate 5 0)]] (.sq Z0gt .ret))⟩
theorem Z0ol:okF Tryz.prog 332 d332=true:=by kernel_rfl
def Z0ft:LJ:=[jx 1 43 0,ja 2 126 [.ints .u64 5 (replicate 5 0),.ints .u64 5 (replicate 5 0),.ints .u64 5 (replicate 5 0),.ints .u64 5 (replicate 5 0)],jm 3 (.const (.bool false))]
def Z0fu:LJ:=[jd 21 [.ints .u64 5 (replicate 5 0),.ints .u64 5 (replicate 5 0),.ints .u64 5 (replicate 5 0),.ints .u64 5 (replicate 5 0)] [],js' 20 2 21,jm 3 (.const (.bool false))]
def Z0fv:Sch:=(.Q 0 (jl 28 5 true 6) (.Q 1 (jl 29 5 true 7) (.P 2 (jc 30 327 [28,29]) (.P 3 (jc 31 332 []) (.Q 4 (jl 32 5 true 6) (.P 5 (jc 33 115 [31,32]) (.Q 6 (jl 34 5 true 7) (.P 7 (jc 35 326 [33,34]) (.P 8 (jc 36 331 [30,35]) (.P 9 (jm 27 36) (.P 10 (je 37 27 0) (.P 11 (je 38 27 1) (.e 12 (oi 8 (.al 124 [.ints .u64 5 (replicate 5 0)])) (.e 13 (jo' 5 8 37) (.P 14 (jm 9 38) .nil)))))))))))))))
def Z0fw:LJ:=[jm 39 9,oj 40 (.un .not 39),jm 41 40,.lg true 41 47 none [.op ⟨some 42,(some (41,false)),.mv 4⟩,.op ⟨some 43,(some (41,false)),.mv 42⟩,.lg false 43 46 (some (41,false)) [.op ⟨some 44,(some (43,true)),.ld 5 true 8⟩,.op ⟨some 45,(some (43,true)),.call 333 [44]⟩] 45] 46]
def Z06u:LJ:=[jd 48 [.ints .u64 5 (replicate 5 0),.ints .u64 5 (replicate 5 0),.ints .u64 5 (replicate 5 0),.ints .u64 5 (replicate 5 0)] [],js' 20 2 48,jm 3 (.const (.bool false))]
def Z06v:Sch:=(.Q 0 (jl 52 5 true 8) (.Q 1 (jl 53 5 true 5) (.Q 2 (jl 54 5 true 7) (.Q 3 (jl 55 5 true 8) (.Q 4 (jl 56 5 true 5) (.P 5 (jc 57 115 [55,56]) (.P 6 (jd 58 [.ints .u64 5 (replicate 5 0),.ints .u64 5 (replicate 5 0),.ints .u64 5 (replicate 5 0),.ints .u64 5 (replicate 5 0)] [(0,5,52),(5,5,53),(10,5,54),(15,5,57)]) (.e 7 (jo' 20 2 58) (.P 8 (jm 3 (.const (.bool true))) .nil)))))))))
def d239:FnD:=⟨59,[.cell 2 20 true,.tmp 3],(.sq Z0ft (.sq [ji 10 32 1 1 (ci 31),jl 11 1 false 10,jb 12 .shr 11 (cu 7),jb 13 .eql 12 (c8 1),jm 4 13] (.sq [ji 14 32 1 1 (ci 31),jl 15 1 false 14,jb 16 .and 15 (c8 127),ji 17 32 1 1 (ci 31),js' 1 17 16] (.seq (.sq [jl 18 32 true 1,jc 19 330 [18],oj 20 (.un .not 19)] (.cond 20 (.sq Z0fu .ret) .skip)) (.sq [jl 22 32 true 1,jc 23 236 [22],ja 5 124 [.ints .u64 5 (replicate 5 0)],js' 5 5 23] (.sq [jl 24 5 true 5,jc 25 324 [24],ja 6 124 [.ints .u64 5 (replicate 5 0)],js' 5 6 25] (.sq [jc 26 237 [],ja 7 124 [.ints .u64 5 (replicate 5 0)],js' 5 7 26] (.seq (.draw Z0fv [13]) (.seq (.sq Z0fw (.cond 47 (.sq Z06u .ret) .skip)) (.seq (.sq [jm 49 4] (.cond 49 (.ops [jl 50 5 true 8,jc 51 334 [50],js' 5 8 51]) .skip)) (.seq (.draw Z06v [7]) .ret)))))))))))⟩
theorem Z0nb:okF Tryz.prog 239 d239=true:=by kernel_rfl
def Z0gy:LJ:=[jm 9 4,oj 10 (.sla 32 1 1 none none none),jm 11 4,jb 12 .mul (ci 8) 11,jc 13 344 [10,12],jm 8 13,je 14 8 0,je 15 8 1,ji 16 4 1 3 9,js' 1 16 14]
def Z0b4:IC:=(.sq [jm 7 5,jm 4 7] (.ops Z0gy))
def Z0cm:IC:=(.sq [jb 6 .lss 5 (ci 4)] (.seq (.cond 6 .skip (.exit 0)) (.seq (.block 1 Z0b4) (.ops [jb 17 .add 5 (ci 1),jm 5 17]))))
def Z0b3:IC:=(.loop Z0cm)
def d336:FnD:=⟨19,[.cell 2 4 true],(.sq [jx 1 118 0,ja 2 393 [.ints .u64 4 (replicate 4 0)]] (.sq [ja 3 393 [.ints .u64 4 (replicate 4 0)]] (.seq (.sq [jm 5 (ci 0)] (.block 0 Z0b3)) (.sq [jl 18 4 true 3,js' 4 2 18] .ret))))⟩
theorem Z0op:okF Tryz.prog 336 d336=true:=by kernel_rfl
def Z0fx:Sch:=(.Q 0 (jl 6 32 true 1) (.P 1 (jc 7 336 [6]) (.Q 2 (jl 8 4 true (.global 3)) (.P 3 (jc 9 335 [7,8]) (.P 4 (jm 5 9) (.P 5 (je 10 5 0) (.P 6 (je 11 5 1) (.e 7 (oi 3 (.al 393 [.ints .u64 4 (replicate 4 0)])) (.e 8 (jo' 4 3 10) (.P 9 (jm 4 11) .nil))))))))))
def d240:FnD:=⟨14,[.tmp 2],(.sq [jx 1 118 0,jm 2 (.const (.bool false))] (.seq (.draw Z0fx [8]) (.sq [jm 12 4,jb 13 .eql 12 (cu 1),jm 2 13] .ret)))⟩
theorem Z0nc:okF Tryz.prog 240 d240=true:=by kernel_rfl
def Z0fy:LJ:=[jx 3 118 0,jx 4 126 1,jx 5 118 2,ja 6 126 [.ints .u64 5 (replicate 5 0),.ints .u64 5 (replicate 5 0),.ints .u64 5 (replicate 5 0),.ints .u64 5 (replicate 5 0)]]
def Z0fz:LJ:=[jc 12 118 [],ja 7 126 [.ints .u64 5 (replicate 5 0),.ints .u64 5 (replicate 5 0),.ints .u64 5 (replicate 5 0),.ints .u64 5 (replicate 5 0)],js' 20 7 12]
def Z0g0:Sch:=(.Q 0 (jl 13 20 true 4) (.P 1 (jc 14 231 [13]) (.Q 2 (jl 15 20 true 7) (.P 3 (jc 16 231 [15]) (.two 4 (oi 8 (.al 351 [.rows 20 16 (fun _=>cells [.ints .u64 5 (replicate 5 0),.ints .u64 5 (replicate 5 0),.ints .u64 5 (replicate 5 0),.ints .u64 5 (replicate 5 0)])])) (.e 5 (oi 9 (.al 351 [.rows 20 16 (fun _=>cells [.ints .u64 5 (replicate 5 0),.ints .u64 5 (replicate 5 0),.ints .u64 5 (replicate 5 0),.ints .u64 5 (replicate 5 0)])])) (.e 6 (jo' 320 8 14) (.e 7 (jo' 320 9 16) .nil)))
 5 ⟨some 9,none,.al 351 [.rows 20 16 (fun _=>cells [.ints .u64 5 (replicate 5 0),.ints .u64 5 (replicate 5 0),.ints .u64 5 (replicate 5 0),.ints .u64 5 (replicate 5 0)])]⟩ (.e 4 (oi 8 (.al 351 [.rows 20 16 (fun _=>cells [.ints .u64 5 (replicate 5 0),.ints .u64 5 (replicate 5 0),.ints .u64 5 (replicate 5 0),.ints .u64 5 (replicate 5 0)])])) (.e 6 (jo' 320 8 14) (.e 7 (jo' 320 9 16) .nil))))))))
def Z0g1:LJ:=[jc 17 232 [],ja 10 126 [.ints .u64 5 (replicate 5 0),.ints .u64 5 (replicate 5 0),.ints .u64 5 (replicate 5 0),.ints .u64 5 (replicate 5 0)],js' 20 10 17]
def Z0al:IC:=(.ops [jl 23 20 true 10,jc 24 233 [23],js' 20 10 24])
def Z0cd:IC:=(.sq [jb 22 .lss 21 (ci 4)] (.seq (.cond 22 .skip (.exit 2)) (.seq (.block 3 Z0al) (.ops [jb 25 .add 21 (ci 1),jm 21 25]))))
def Z0ak:IC:=(.loop Z0cd)
def Z06w:Sch:=(.P 2 (jm 28 11) (.P 8 (jm 34 11) (.Q 0 (jl 26 20 true 10) (.Q 1 (jl 27 32 true 3) (.P 3 (jc 29 235 [27,28]) (.P 4 (ji 30 16 20 8 29) (.Q 5 (jl 31 20 true 30) (.P 6 (jc 32 234 [26,31]) (.Q 7 (jl 33 32 true 5) (.P 9 (jc 35 235 [33,34]) (.P 10 (ji 36 16 20 9 35) (.Q 11 (jl 37 20 true 36) (.P 12 (jc 38 234 [32,37]) (.e 13 (jo' 20 10 38) .nil))))))))))))))
def Z0aj:IC:=(.sq [jm 20 18,jm 11 20] (.seq (.sq [jm 21 (ci 0)] (.block 2 Z0ak)) (.draw Z06w [13])))
def Z0cc:IC:=(.sq [jb 19 .lss 18 (ci 64)] (.seq (.cond 19 .skip (.exit 0)) (.seq (.block 1 Z0aj) (.ops [jb 39 .add 18 (ci 1),jm 18 39]))))
def Z0ai:IC:=(.loop Z0cc)
def d241:FnD:=⟨41,[.cell 6 20 true],(.sq Z0fy (.sq Z0fz (.seq (.draw Z0g0 [6,7]) (.sq Z0g1 (.seq (.sq [jm 18 (ci 0)] (.block 0 Z0ai)) (.sq [jl 40 20 true 10,js' 20 6 40] .ret))))))⟩
theorem Z0nd:okF Tryz.prog 241 d241=true:=by kernel_rfl
def Z0g2:LJ:=[jx 1 126 0,ja 2 126 [.ints .u64 5 (replicate 5 0),.ints .u64 5 (replicate 5 0),.ints .u64 5 (replicate 5 0),.ints .u64 5 (replicate 5 0)]]
def Z0g3:Sch:=(.P 0 (jf 3 0 1) (.P 3 (jf 6 5 1) (.P 5 (jf 8 10 1) (.P 7 (jf 10 15 1) (.Q 1 (jl 4 5 true 3) (.P 2 (jc 5 334 [4]) (.Q 4 (jl 7 5 true 6) (.Q 6 (jl 9 5 true 8) (.Q 8 (jl 11 5 true 10) (.P 9 (jc 12 334 [11]) (.P 10 (jd 13 [.ints .u64 5 (replicate 5 0),.ints .u64 5 (replicate 5 0),.ints .u64 5 (replicate 5 0),.ints .u64 5 (replicate 5 0)] [(0,5,5),(5,5,7),(10,5,9),(15,5,12)]) (.e 11 (jo' 20 2 13) .nil))))))))))))
def d242:FnD:=⟨14,[.cell 2 20 true],(.sq Z0g2 (.seq (.draw Z0g3 [11]) .ret))⟩
theorem Z0ne:okF Tryz.prog 242 d242=true:=by kernel_rfl
def Z0et:LJ:=[jl 13 32 true 3,jc 14 239 [13],jm 12 14,je 15 12 0,je 16 12 1,ja 7 126 [.ints .u64 5 (replicate 5 0),.ints .u64 5 (replicate 5 0),.ints .u64 5 (replicate 5 0),.ints .u64 5 (replicate 5 0)],js' 20 7 15,jm 8 16]
def Z0eu:LJ:=[oj 17 (.sla 64 1 5 (some (ci 32)) none none),oj 18 (.s2a 32 17),jl 19 32 true 18,ja 9 118 [.ints .u8 32 (replicate 32 0)],js' 32 9 19]
def Z0ev:LJ:=[jm 20 8,oj 21 (.un .not 20),jm 22 21,.lg true 22 26 none [.op ⟨some 23,(some (22,false)),.ld 32 true 9⟩,.op ⟨some 24,(some (22,false)),.call 240 [23]⟩,.op ⟨some 25,(some (22,false)),.un .not 24⟩] 25]
def Z0ew:Sch:=(.P 0 (oj 27 (.sla 64 1 5 none (some (ci 32)) none)) (.P 1 (oj 28 (.sla 32 1 3 none none none)) (.P 2 (jm 29 1) (.two 3 (oi 30 (.bs 58 3 1 [.one (.slice none 0 0),.one (.slice none 0 0),.one (.slice none 0 0)] [(0,1,27),(1,1,28),(2,1,29)])) (.two 4 (oi 31 (.call 204 [30])) (.e 5 (oi 10 (.al 118 [.ints .u8 32 (replicate 32 0)])) (.e 6 (jo' 32 10 31) .nil))
 5 ⟨some 10,none,.al 118 [.ints .u8 32 (replicate 32 0)]⟩ (.e 4 (oi 31 (.call 204 [30])) (.e 6 (jo' 32 10 31) .nil)))
 5 ⟨some 10,none,.al 118 [.ints .u8 32 (replicate 32 0)]⟩ (.e 3 (oi 30 (.bs 58 3 1 [.one (.slice none 0 0),.one (.slice none 0 0),.one (.slice none 0 0)] [(0,1,27),(1,1,28),(2,1,29)])) (.e 4 (oi 31 (.call 204 [30])) (.e 6 (jo' 32 10 31) .nil)))))))
def Z0ex:Sch:=(.Q 0 (jl 32 32 true 10) (.Q 1 (jl 33 20 true 7) (.P 2 (jc 34 242 [33]) (.Q 3 (jl 35 32 true 9) (.P 4 (jc 36 241 [32,34,35]) (.P 5 (jc 37 53 [36]) (.e 6 (oi 11 (.al 43 [.ints .u8 32 (replicate 32 0)])) (.e 7 (jo' 32 11 37) .nil))))))))
def Z0ey:Sch:=(.P 1 (oj 39 (.sla 64 1 5 none (some (ci 32)) none)) (.P 2 (oj 40 (.s2a 32 39)) (.Q 0 (jl 38 32 true 11) (.Q 3 (jl 41 32 true 40) (.P 4 (oj 42 (.eqa false [(.i .u8,32)] 38 41)) (.P 5 (jm 6 42) .nil))))))
def d122:FnD:=⟨43,[.tmp 6],(.sq [jx 3 43 0,jx 5 27 2,jm 6 (.const (.bool false))] (.sq Z0et (.sq Z0eu (.seq (.sq Z0ev (.cond 26 (.sq [jm 6 (.const (.bool false))] .ret) .skip)) (.seq (.draw Z0ew [6]) (.seq (.draw Z0ex [7]) (.seq (.draw Z0ey []) .ret)))))))⟩
theorem Z0lm:okF Tryz.prog 122 d122=true:=by kernel_rfl
def d351:FnD:=⟨7,[.tmp 2],(.sq [jx 1 118 0,jm 2 (.const (.slice none 0 0))] (.sq [jl 4 32 true 1,jc 5 336 [4],ja 3 393 [.ints .u64 4 (replicate 4 0)],js' 4 3 5] (.sq [oj 6 (.sla 4 1 3 none none none),jm 2 6] .ret)))⟩
theorem Z0p1:okF Tryz.prog 351 d351=true:=by kernel_rfl
def d348:FnD:=⟨6,[.cell 2 4 true],(.sq [jx 1 118 0,ja 2 393 [.ints .u64 4 (replicate 4 0)]] (.sq [jl 3 32 true 1,jc 4 351 [3],jc 5 346 [4],js' 4 2 5] .ret))⟩
theorem Z0oy:okF Tryz.prog 348 d348=true:=by kernel_rfl
def Z0g8:Sch:=(.Q 0 (jl 8 32 true 2) (.P 1 (jc 9 348 [8]) (.Q 2 (jl 10 32 true 3) (.P 3 (jc 11 348 [10]) (.P 4 (jc 12 347 [9,11]) (.P 5 (jm 7 12) (.P 6 (je 13 7 0) (.P 7 (je 14 7 1) (.e 8 (oi 5 (.al 393 [.ints .u64 4 (replicate 4 0)])) (.e 9 (jo' 4 5 13) (.P 10 (jm 6 14) .nil)))))))))))
def d304:FnD:=⟨18,[.cell 4 32 true],(.sq [jx 2 118 0,jx 3 118 1,ja 4 118 [.ints .u8 32 (replicate 32 0)]] (.seq (.draw Z0g8 [9]) (.sq [jl 15 4 true 5,jc 16 349 [15],jc 17 345 [16],js' 32 4 17] .ret)))⟩
theorem Z0o0:okF Tryz.prog 304 d304=true:=by kernel_rfl
def Z0g9:Sch:=(.Q 0 (jl 5 32 true 2) (.Q 2 (jl 7 32 true 3) (.e 1 (oi 6 (.call 351 [5])) (.e 3 (oi 8 (.call 351 [7])) (.e 4 (oi 9 (.call 350 [6,8])) (.e 5 (oi 10 (.call 346 [9])) (.P 6 (jc 11 345 [10]) (.e 7 (jo' 32 4 11) .nil))))))))
def d305:FnD:=⟨12,[.cell 4 32 true],(.sq [jx 2 118 0,jx 3 118 1,ja 4 118 [.ints .u8 32 (replicate 32 0)]] (.seq (.draw Z0g9 [7]) .ret))⟩
theorem Z0o1:okF Tryz.prog 305 d305=true:=by kernel_rfl
def Z0f6:Sch:=(.Q 0 (jl 7 32 true 3) (.Q 1 (jl 8 32 true 4) (.P 2 (jc 9 305 [7,8]) (.Q 3 (jl 10 32 true 5) (.P 4 (jc 11 304 [9,10]) (.e 5 (jo' 32 6 11) .nil))))))
def d205:FnD:=⟨12,[.cell 6 32 true],(.sq [jx 3 118 0,jx 4 118 1,jx 5 118 2,ja 6 118 [.ints .u8 32 (replicate 32 0)]] (.seq (.draw Z0f6 [5]) .ret))⟩
theorem Z0mf:okF Tryz.prog 205 d205=true:=by kernel_rfl
def Z0ef:LJ:=[jl 14 32 true 2,jc 15 52 [14],jm 13 15,je 16 13 0,je 17 13 1,ja 5 118 [.ints .u8 32 (replicate 32 0)],js' 32 5 16,jm 6 17]
def Z0eg:LJ:=[jm 21 6,jm 22 1,oj 23 (.bs 58 2 1 [.one (.slice none 0 0),.one (.slice none 0 0)] [(0,1,21),(1,1,22)]),jc 24 204 [23],ja 8 118 [.ints .u8 32 (replicate 32 0)],js' 32 8 24]
def Z0eh:Sch:=(.P 0 (oj 28 (.sla 32 1 9 none none none)) (.P 1 (oj 29 (.sla 32 1 7 none none none)) (.P 2 (jm 30 1) (.two 3 (oi 31 (.bs 58 3 1 [.one (.slice none 0 0),.one (.slice none 0 0),.one (.slice none 0 0)] [(0,1,28),(1,1,29),(2,1,30)])) (.two 4 (oi 32 (.call 204 [31])) (.e 5 (oi 10 (.al 118 [.ints .u8 32 (replicate 32 0)])) (.e 6 (jo' 32 10 32) .nil))
 5 ⟨some 10,none,.al 118 [.ints .u8 32 (replicate 32 0)]⟩ (.e 4 (oi 32 (.call 204 [31])) (.e 6 (jo' 32 10 32) .nil)))
 5 ⟨some 10,none,.al 118 [.ints .u8 32 (replicate 32 0)]⟩ (.e 3 (oi 31 (.bs 58 3 1 [.one (.slice none 0 0),.one (.slice none 0 0),.one (.slice none 0 0)] [(0,1,28),(1,1,29),(2,1,30)])) (.e 4 (oi 32 (.call 204 [31])) (.e 6 (jo' 32 10 32) .nil)))))))
def Z0ei:LJ:=[jl 33 32 true 10,jl 34 32 true 5,jl 35 32 true 8,jc 36 205 [33,34,35],ja 11 118 [.ints .u8 32 (replicate 32 0)],js' 32 11 36]
def Z0ej:Sch:=(.P 0 (oj 37 (.sla 64 1 12 none (some (ci 32)) none)) (.P 1 (oj 38 (.sla 32 1 9 none none none)) (.e 2 (oi 39 (.cpy 1 37 38)) .nil)))
def Z0ek:Sch:=(.P 0 (oj 40 (.sla 64 1 12 (some (ci 32)) none none)) (.P 1 (oj 41 (.sla 32 1 11 none none none)) (.e 2 (oi 42 (.cpy 1 40 41)) .nil)))
def d102:FnD:=⟨44,[.cell 4 64 true],(.sq [jx 2 23 0,ja 4 27 [.ints .u8 64 (replicate 64 0)]] (.sq Z0ef (.sq [jl 18 32 true 5,jc 19 54 [18],jc 20 53 [19],ja 7 43 [.ints .u8 32 (replicate 32 0)],js' 32 7 20] (.sq Z0eg (.sq [jl 25 32 true 8,jc 26 54 [25],jc 27 53 [26],ja 9 43 [.ints .u8 32 (replicate 32 0)],js' 32 9 27] (.seq (.draw Z0eh [6]) (.sq Z0ei (.sq [ja 12 27 [.ints .u8 64 (replicate 64 0)]] (.seq (.draw Z0ej [2]) (.seq (.draw Z0ek [2]) (.sq [jl 43 64 true 12,js' 64 4 43] .ret)))))))))))⟩
theorem Z0l2:okF Tryz.prog 102 d102=true:=by kernel_rfl
def Z0qf:LJ:=[jd 1 [.one .nilFunc,.one .nilFunc,.one .nilFunc,.one .nilFunc] [(0,1,(.func 12)),(1,1,(.func 99)),(2,1,(.func 100)),(3,1,(.func 101))],js' 4 0 1]
def d44:FnD:=⟨2,[.cell 0 4 true],(.sq [ja 0 102 [.one .nilFunc,.one .nilFunc,.one .nilFunc,.one .nilFunc]] (.sq Z0qf .ret))⟩
theorem ok44:okF Tryz.prog 44 d44=true:=by kernel_rfl
def Z0qi:LJ:=[jd 1 [.one .nilFunc,.one .nilFunc,.one .nilFunc,.one .nilFunc] [(0,1,(.func 33)),(1,1,(.func 103)),(2,1,(.func 104)),(3,1,(.func 105))],js' 4 0 1]
def d46:FnD:=⟨2,[.cell 0 4 true],(.sq [ja 0 108 [.one .nilFunc,.one .nilFunc,.one .nilFunc,.one .nilFunc]] (.sq Z0qi .ret))⟩
theorem ok46:okF Tryz.prog 46 d46=true:=by kernel_rfl
def Z0ql:LJ:=[jd 1 [.one .nilFunc,.one .nilFunc,.one .nilFunc,.one .nilFunc] [(0,1,(.func 35)),(1,1,(.func 106)),(2,1,(.func 107)),(3,1,(.func 108))],js' 4 0 1]
def d48:FnD:=⟨2,[.cell 0 4 true],(.sq [ja 0 114 [.one .nilFunc,.one .nilFunc,.one .nilFunc,.one .nilFunc]] (.sq Z0ql .ret))⟩
theorem ok48:okF Tryz.prog 48 d48=true:=by kernel_rfl
def Z0j8:IC:=(.ops [oj 10 (.sla 32 1 3 none none none),jc 11 11 [10],js' 32 3 11])
def Z0jp:IC:=(.sq [jb 9 .lss 8 7] (.seq (.cond 9 .skip (.exit 0)) (.seq (.block 1 Z0j8) (.ops [jb 12 .add 8 (ci 1),jm 8 12]))))
def Z0j7:IC:=(.loop Z0jp)
def d51:FnD:=⟨16,[.tmp 6],(.sq [jx 3 23 0,jx 5 23 2,jm 6 (.const (.bool false))] (.seq (.sq [jm 7 1,jm 8 (ci 0)] (.block 0 Z0j7)) (.sq [jl 13 32 true 3,jl 14 32 true 5,oj 15 (.eqa false [(.i .u8,32)] 13 14),jm 6 15] .ret)))⟩
theorem ok51:okF Tryz.prog 51 d51=true:=by kernel_rfl
def d17:FnD:=⟨5,[.cell 2 64 true],(.sq [jx 1 27 0,ja 2 27 [.ints .u8 64 (replicate 64 0)]] (.sq [ji 3 64 1 1 (ci 63),js' 1 3 (c8 255)] (.sq [jl 4 64 true 1,js' 64 2 4] .ret)))⟩
theorem ok17:okF Tryz.prog 17 d17=true:=by kernel_rfl
def Z0r1:LJ:=[jf 12 0 3,jl 13 1 false 12,jl 14 65 true 5,oj 15 (.cv 13 [14]),jm 11 15,je 16 11 0,je 17 11 1,jm 7 16,jm 8 17]
def Z0r2:LJ:=[jf 19 3 3,jl 20 1 false 19,jl 21 33 true 4,jl 22 65 true 5,oj 23 (.cv 20 [21,22]),jm 18 23,je 24 18 0,je 25 18 1,ja 9 43 [.ints .u8 32 (replicate 32 0)],js' 32 9 24,jm 10 25]
def Z0r3:Sch:=(.P 0 (jm 26 8) (.P 1 (jb 27 .eql 26 (ci 0)) (.P 2 (jm 28 27) (.p [3,4] (.lg false 28 30 none [.op ⟨some 29,(some (28,true)),.mv 10⟩] 29) (.P 5 (jm 31 30) (.P 7 (.op ⟨some 33,(some (31,true)),.fa 1 3⟩) (.P 11 (.op ⟨some 37,(some (31,true)),.fa 2 3⟩) (.Q 6 (.op ⟨some 32,(some (31,true)),.ld 32 true 9⟩) (.Q 8 (.op ⟨some 34,(some (31,true)),.ld 1 false 33⟩) (.Q 9 (.op ⟨some 35,(some (31,true)),.ld 65 true 5⟩) (.Q 12 (.op ⟨some 38,(some (31,true)),.ld 1 false 37⟩) (.e 10 ⟨some 36,(some (31,true)),.cv 34 [35]⟩ (.e 13 ⟨some 39,(some (31,true)),.cv 38 [5]⟩ (.P 14 (.op ⟨some 40,(some (31,true)),.nilc 39⟩) (.e 15 ⟨some 41,(some (31,true)),.ld 64 true 40⟩ (.e 16 ⟨some 42,(some (31,true)),.call 122 [32,36,41]⟩ (.P 17 (oj 43 (.pick 31 42 (.const (.bool false)))) (.P 18 (jm 6 43) .nil))))))))))))))))))
def d56:FnD:=⟨44,[.tmp 6],(.sq [jx 3 132 0,jx 4 46 1,jx 5 36 2,jm 6 (.const (.bool false))] (.sq Z0r1 (.sq Z0r2 (.seq (.draw Z0r3 []) .ret))))⟩
theorem ok56:okF Tryz.prog 56 d56=true:=by kernel_rfl
def Z0q0:Sch:=(.Q 1 (jl 6 33 true 2) (.Q 2 (jl 7 65 true 3) (.e 0 (oi 5 (.call 55 [])) (.e 3 (oi 8 (.call 56 [5,6,7])) (.P 4 (jm 4 8) .nil)))))
def d21:FnD:=⟨9,[.tmp 4],(.sq [jx 2 46 0,jx 3 36 1,jm 4 (.const (.bool false))] (.seq (.draw Z0q0 []) .ret))⟩
theorem ok21:okF Tryz.prog 21 d21=true:=by kernel_rfl
def Z0r4:Sch:=(.P 0 (jf 7 2 3) (.P 4 (jf 11 1 3) (.Q 1 (jl 8 1 false 7) (.Q 3 (jl 10 32 true 4) (.Q 5 (jl 12 1 false 11) (.Q 6 (jl 13 65 true 5) (.e 2 (oi 9 (.cv 8 [5])) (.e 7 (oi 14 (.cv 12 [13])) (.e 8 (oi 15 (.call 102 [10,14])) (.P 9 (jz 16 9) (.e 10 (jo' 64 16 15) .nil)))))))))))
def d57:FnD:=⟨18,[.cell 6 65 true],(.sq [jx 3 132 0,jx 4 23 1,jx 5 36 2,ja 6 36 [.one (.int .i64 0),.ints .u8 64 (replicate 64 0)]] (.seq (.draw Z0r4 [10]) (.sq [jl 17 65 true 5,js' 65 6 17] .ret)))⟩
theorem ok57:okF Tryz.prog 57 d57=true:=by kernel_rfl
def Z0q1:Sch:=(.Q 1 (jl 6 32 true 2) (.Q 2 (jl 7 65 true 3) (.e 0 (oi 5 (.call 55 [])) (.e 3 (oi 8 (.call 57 [5,6,7])) (.e 4 (jo' 65 4 8) .nil)))))
def d22:FnD:=⟨9,[.cell 4 65 true],(.sq [jx 2 23 0,jx 3 36 1,ja 4 36 [.one (.int .i64 0),.ints .u8 64 (replicate 64 0)]] (.seq (.draw Z0q1 [4]) .ret))⟩
theorem ok22:okF Tryz.prog 22 d22=true:=by kernel_rfl
def r7_1:LJ:=[jc 6 20 [],ja 1 25 [.one (.int .i64 0),.one (.int .i64 0),.one (.int .i64 0),.one (.int .i64 0),.one (.int .i64 0),.ints .u8 32 (replicate 32 0)],js' 37 1 6]
def r7_2:LJ:=[jl 8 37 true 1,jc 9 5 [8],jm 7 9,je 10 7 0,je 11 7 1,ja 2 46 [.ints .u8 32 (replicate 32 0),.one (.slice none 0 0)],js' 33 2 10,jm 3 11]
def r7_3:LJ:=[jl 13 37 true 1,jc 14 8 [13,(ci 0)],jm 12 14,je 15 12 0,je 16 12 1,ja 4 23 [.ints .u8 32 (replicate 32 0)],js' 32 4 15,jm 5 16]
def r7_4:Sch:=(.P 0 (jm 17 3) (.P 1 (jb 18 .eql 17 (ci 0)) (.P 2 (jm 19 18) (.p [3,4] (.lg false 19 21 none [.op ⟨some 20,(some (19,true)),.mv 5⟩] 20) (.P 5 (jm 22 21) (.q [6,7,8,9,10] (.lg false 22 27 none [.op ⟨some 23,(some (22,true)),.fa 32 2⟩,.op ⟨some 24,(some (22,true)),.ld 1 false 23⟩,.op ⟨some 25,(some (22,true)),.len 24⟩,.op ⟨some 26,(some (22,true)),.bin .eql 25 (ci 2)⟩] 26) (.P 11 (jm 28 27) (.q [12,13,14,15,16,17] (.lg false 28 34 none [.op ⟨some 29,(some (28,true)),.ld 33 true 2⟩,.op ⟨some 30,(some (28,true)),.ld 32 true 4⟩,.op ⟨some 31,(some (28,true)),.bd [.one (.int .i64 0),.ints .u8 64 (replicate 64 0)] [(0,1,(ci 4))]⟩,.op ⟨some 32,(some (28,true)),.call 22 [30,31]⟩,.op ⟨some 33,(some (28,true)),.call 21 [29,32]⟩] 33) (.P 18 (jm 0 34) .nil)))))))))
def d7:FnD:=⟨35,[.tmp 0],(.sq [jm 0 (.const (.bool false))] (.sq r7_1 (.sq r7_2 (.sq r7_3 (.seq (.draw r7_4 []) .ret)))))⟩
theorem ok7:okF Tryz.prog 7 d7=true:=by kernel_rfl
def Z0qg:LJ:=[jx 3 102 0,jx 4 23 1,jx 5 29 2,ja 6 29 [.one (.int .i64 0),.one (.int .i64 0),.one (.int .i64 0),.ints .u8 32 (replicate 32 0),.ints .u8 64 (replicate 64 0)]]
def Z0qh:Sch:=(.P 0 (jf 7 2 3) (.P 4 (jf 11 1 3) (.Q 1 (jl 8 1 false 7) (.Q 3 (jl 10 32 true 4) (.Q 5 (jl 12 1 false 11) (.Q 6 (jl 13 99 true 5) (.e 2 (oi 9 (.cv 8 [5])) (.e 7 (oi 14 (.cv 12 [13])) (.e 8 (oi 15 (.call 102 [10,14])) (.P 9 (jz 16 9) (.e 10 (jo' 64 16 15) .nil)))))))))))
def d45:FnD:=⟨18,[.cell 6 99 true],(.sq Z0qg (.seq (.draw Z0qh [10]) (.sq [jl 17 99 true 5,js' 99 6 17] .ret)))⟩
theorem ok45:okF Tryz.prog 45 d45=true:=by kernel_rfl
def Z0pn:LJ:=[jx 2 23 0,jx 3 29 1,ja 4 29 [.one (.int .i64 0),.one (.int .i64 0),.one (.int .i64 0),.ints .u8 32 (replicate 32 0),.ints .u8 64 (replicate 64 0)]]
def Z0po:Sch:=(.Q 1 (jl 6 32 true 2) (.Q 2 (jl 7 99 true 3) (.e 0 (oi 5 (.call 44 [])) (.e 3 (oi 8 (.call 45 [5,6,7])) (.e 4 (jo' 99 4 8) .nil)))))
def d13:FnD:=⟨9,[.cell 4 99 true],(.sq Z0pn (.seq (.draw Z0po [4]) .ret))⟩
theorem ok13:okF Tryz.prog 13 d13=true:=by kernel_rfl
def Z0qj:LJ:=[jx 3 108 0,jx 4 23 1,jx 5 31 2,ja 6 31 [.one (.int .i64 0),.one (.int .i64 0),.one (.int .i64 0),.ints .u8 32 (replicate 32 0),.ints .u8 64 (replicate 64 0),.ints .u8 64 (replicate 64 0)]]
def Z0qk:Sch:=(.P 0 (jf 7 2 3) (.P 4 (jf 11 1 3) (.Q 1 (jl 8 1 false 7) (.Q 3 (jl 10 32 true 4) (.Q 5 (jl 12 1 false 11) (.Q 6 (jl 13 163 true 5) (.e 2 (oi 9 (.cv 8 [5])) (.e 7 (oi 14 (.cv 12 [13])) (.e 8 (oi 15 (.call 102 [10,14])) (.P 9 (jz 16 9) (.e 10 (jo' 64 16 15) .nil)))))))))))
def d47:FnD:=⟨18,[.cell 6 163 true],(.sq Z0qj (.seq (.draw Z0qk [10]) (.sq [jl 17 163 true 5,js' 163 6 17] .ret)))⟩
theorem ok47:okF Tryz.prog 47 d47=true:=by kernel_rfl
def Z0pp:LJ:=[jx 2 23 0,jx 3 31 1,ja 4 31 [.one (.int .i64 0),.one (.int .i64 0),.one (.int .i64 0),.ints .u8 32 (replicate 32 0),.ints .u8 64 (replicate 64 0),.ints .u8 64 (replicate 64 0)]]
def Z0pq:Sch:=(.Q 1 (jl 6 32 true 2) (.Q 2 (jl 7 163 true 3) (.e 0 (oi 5 (.call 46 [])) (.e 3 (oi 8 (.call 47 [5,6,7])) (.e 4 (jo' 163 4 8) .nil)))))
def d14:FnD:=⟨9,[.cell 4 163 true],(.sq Z0pp (.seq (.draw Z0pq [4]) .ret))⟩
theorem ok14:okF Tryz.prog 14 d14=true:=by kernel_rfl
def Z0qm:LJ:=[jx 3 114 0,jx 4 23 1,jx 5 34 2,ja 6 34 [.one (.int .i64 0),.one (.int .i64 0),.one (.int .i64 0),.ints .u8 32 (replicate 32 0),.ints .u8 64 (replicate 64 0),.ints .u8 64 (replicate 64 0)]]
def Z0qn:Sch:=(.P 0 (jf 7 2 3) (.P 4 (jf 11 1 3) (.Q 1 (jl 8 1 false 7) (.Q 3 (jl 10 32 true 4) (.Q 5 (jl 12 1 false 11) (.Q 6 (jl 13 163 true 5) (.e 2 (oi 9 (.cv 8 [5])) (.e 7 (oi 14 (.cv 12 [13])) (.e 8 (oi 15 (.call 102 [10,14])) (.P 9 (jz 16 9) (.e 10 (jo' 64 16 15) .nil)))))))))))
def d49:FnD:=⟨18,[.cell 6 163 true],(.sq Z0qm (.seq (.draw Z0qn [10]) (.sq [jl 17 163 true 5,js' 163 6 17] .ret)))⟩
theorem ok49:okF Tryz.prog 49 d49=true:=by kernel_rfl
def Z0pr:LJ:=[jx 2 23 0,jx 3 34 1,ja 4 34 [.one (.int .i64 0),.one (.int .i64 0),.one (.int .i64 0),.ints .u8 32 (replicate 32 0),.ints .u8 64 (replicate 64 0),.ints .u8 64 (replicate 64 0)]]
def Z0ps:Sch:=(.Q 1 (jl 6 32 true 2) (.Q 2 (jl 7 163 true 3) (.e 0 (oi 5 (.call 48 [])) (.e 3 (oi 8 (.call 49 [5,6,7])) (.e 4 (jo' 163 4 8) .nil)))))
def d15:FnD:=⟨9,[.cell 4 163 true],(.sq Z0pr (.seq (.draw Z0ps [4]) .ret))⟩
theorem ok15:okF Tryz.prog 15 d15=true:=by kernel_rfl
def Z0r8:LJ:=[jf 12 0 3,jl 13 1 false 12,jl 14 99 true 5,oj 15 (.cv 13 [14]),jm 11 15,je 16 11 0,je 17 11 1,jm 7 16,jm 8 17]
def Z0r9:LJ:=[jf 19 3 3,jl 20 1 false 19,jl 21 33 true 4,jl 22 99 true 5,oj 23 (.cv 20 [21,22]),jm 18 23,je 24 18 0,je 25 18 1,ja 9 43 [.ints .u8 32 (replicate 32 0)],js' 32 9 24,jm 10 25]
def Z0ra:Sch:=(.P 0 (jm 26 8) (.P 1 (jb 27 .eql 26 (ci 0)) (.P 2 (jm 28 27) (.p [3,4] (.lg false 28 30 none [.op ⟨some 29,(some (28,true)),.mv 10⟩] 29) (.P 5 (jm 31 30) (.P 7 (.op ⟨some 33,(some (31,true)),.fa 1 3⟩) (.P 11 (.op ⟨some 37,(some (31,true)),.fa 2 3⟩) (.Q 6 (.op ⟨some 32,(some (31,true)),.ld 32 true 9⟩) (.Q 8 (.op ⟨some 34,(some (31,true)),.ld 1 false 33⟩) (.Q 9 (.op ⟨some 35,(some (31,true)),.ld 99 true 5⟩) (.Q 12 (.op ⟨some 38,(some (31,true)),.ld 1 false 37⟩) (.e 10 ⟨some 36,(some (31,true)),.cv 34 [35]⟩ (.e 13 ⟨some 39,(some (31,true)),.cv 38 [5]⟩ (.P 14 (.op ⟨some 40,(some (31,true)),.nilc 39⟩) (.e 15 ⟨some 41,(some (31,true)),.ld 64 true 40⟩ (.e 16 ⟨some 42,(some (31,true)),.call 122 [32,36,41]⟩ (.P 17 (oj 43 (.pick 31 42 (.const (.bool false)))) (.P 18 (jm 6 43) .nil))))))))))))))))))
def d61:FnD:=⟨44,[.tmp 6],(.sq [jx 3 102 0,jx 4 46 1,jx 5 29 2,jm 6 (.const (.bool false))] (.sq Z0r8 (.sq Z0r9 (.seq (.draw Z0ra []) .ret))))⟩
theorem ok61:okF Tryz.prog 61 d61=true:=by kernel_rfl
def Z0q4:Sch:=(.Q 1 (jl 6 33 true 2) (.Q 2 (jl 7 99 true 3) (.e 0 (oi 5 (.call 44 [])) (.e 3 (oi 8 (.call 61 [5,6,7])) (.P 4 (jm 4 8) .nil)))))
def d24:FnD:=⟨9,[.tmp 4],(.sq [jx 2 46 0,jx 3 29 1,jm 4 (.const (.bool false))] (.seq (.draw Z0q4 []) .ret))⟩
theorem ok24:okF Tryz.prog 24 d24=true:=by kernel_rfl
def Z0rb:LJ:=[jf 12 0 3,jl 13 1 false 12,jl 14 163 true 5,oj 15 (.cv 13 [14]),jm 11 15,je 16 11 0,je 17 11 1,jm 7 16,jm 8 17]
def Z0rc:LJ:=[jf 19 3 3,jl 20 1 false 19,jl 21 33 true 4,jl 22 163 true 5,oj 23 (.cv 20 [21,22]),jm 18 23,je 24 18 0,je 25 18 1,ja 9 43 [.ints .u8 32 (replicate 32 0)],js' 32 9 24,jm 10 25]
def Z0rd:Sch:=(.P 0 (jm 26 8) (.P 1 (jb 27 .eql 26 (ci 0)) (.P 2 (jm 28 27) (.p [3,4] (.lg false 28 30 none [.op ⟨some 29,(some (28,true)),.mv 10⟩] 29) (.P 5 (jm 31 30) (.P 7 (.op ⟨some 33,(some (31,true)),.fa 1 3⟩) (.P 11 (.op ⟨some 37,(some (31,true)),.fa 2 3⟩) (.Q 6 (.op ⟨some 32,(some (31,true)),.ld 32 true 9⟩) (.Q 8 (.op ⟨some 34,(some (31,true)),.ld 1 false 33⟩) (.Q 9 (.op ⟨some 35,(some (31,true)),.ld 163 true 5⟩) (.Q 12 (.op ⟨some 38,(some (31,true)),.ld 1 false 37⟩) (.e 10 ⟨some 36,(some (31,true)),.cv 34 [35]⟩ (.e 13 ⟨some 39,(some (31,true)),.cv 38 [5]⟩ (.P 14 (.op ⟨some 40,(some (31,true)),.nilc 39⟩) (.e 15 ⟨some 41,(some (31,true)),.ld 64 true 40⟩ (.e 16 ⟨some 42,(some (31,true)),.call 122 [32,36,41]⟩ (.P 17 (oj 43 (.pick 31 42 (.const (.bool false)))) (.P 18 (jm 6 43) .nil))))))))))))))))))
def d62:FnD:=⟨44,[.tmp 6],(.sq [jx 3 108 0,jx 4 46 1,jx 5 31 2,jm 6 (.const (.bool false))] (.sq Z0rb (.sq Z0rc (.seq (.draw Z0rd []) .ret))))⟩
theorem ok62:okF Tryz.prog 62 d62=true:=by kernel_rfl
def Z0q5:Sch:=(.Q 1 (jl 6 33 true 2) (.Q 2 (jl 7 163 true 3) (.e 0 (oi 5 (.call 46 [])) (.e 3 (oi 8 (.call 62 [5,6,7])) (.P 4 (jm 4 8) .nil)))))
def d25:FnD:=⟨9,[.tmp 4],(.sq [jx 2 46 0,jx 3 31 1,jm 4 (.const (.bool false))] (.seq (.draw Z0q5 []) .ret))⟩
theorem ok25:okF Tryz.prog 25 d25=true:=by kernel_rfl
def Z0re:LJ:=[jf 12 0 3,jl 13 1 false 12,jl 14 163 true 5,oj 15 (.cv 13 [14]),jm 11 15,je 16 11 0,je 17 11 1,jm 7 16,jm 8 17]
def Z0rf:LJ:=[jf 19 3 3,jl 20 1 false 19,jl 21 33 true 4,jl 22 163 true 5,oj 23 (.cv 20 [21,22]),jm 18 23,je 24 18 0,je 25 18 1,ja 9 43 [.ints .u8 32 (replicate 32 0)],js' 32 9 24,jm 10 25]
def Z0rg:Sch:=(.P 0 (jm 26 8) (.P 1 (jb 27 .eql 26 (ci 0)) (.P 2 (jm 28 27) (.p [3,4] (.lg false 28 30 none [.op ⟨some 29,(some (28,true)),.mv 10⟩] 29) (.P 5 (jm 31 30) (.P 7 (.op ⟨some 33,(some (31,true)),.fa 1 3⟩) (.P 11 (.op ⟨some 37,(some (31,true)),.fa 2 3⟩) (.Q 6 (.op ⟨some 32,(some (31,true)),.ld 32 true 9⟩) (.Q 8 (.op ⟨some 34,(some (31,true)),.ld 1 false 33⟩) (.Q 9 (.op ⟨some 35,(some (31,true)),.ld 163 true 5⟩) (.Q 12 (.op ⟨some 38,(some (31,true)),.ld 1 false 37⟩) (.e 10 ⟨some 36,(some (31,true)),.cv 34 [35]⟩ (.e 13 ⟨some 39,(some (31,true)),.cv 38 [5]⟩ (.P 14 (.op ⟨some 40,(some (31,true)),.nilc 39⟩) (.e 15 ⟨some 41,(some (31,true)),.ld 64 true 40⟩ (.e 16 ⟨some 42,(some (31,true)),.call 122 [32,36,41]⟩ (.P 17 (oj 43 (.pick 31 42 (.const (.bool false)))) (.P 18 (jm 6 43) .nil))))))))))))))))))
def d66:FnD:=⟨44,[.tmp 6],(.sq [jx 3 114 0,jx 4 46 1,jx 5 34 2,jm 6 (.const (.bool false))] (.sq Z0re (.sq Z0rf (.seq (.draw Z0rg []) .ret))))⟩
theorem ok66:okF Tryz.prog 66 d66=true:=by kernel_rfl
def Z0q6:Sch:=(.Q 1 (jl 6 33 true 2) (.Q 2 (jl 7 163 true 3) (.e 0 (oi 5 (.call 48 [])) (.e 3 (oi 8 (.call 66 [5,6,7])) (.P 4 (jm 4 8) .nil)))))
def d28:FnD:=⟨9,[.tmp 4],(.sq [jx 2 46 0,jx 3 34 1,jm 4 (.const (.bool false))] (.seq (.draw Z0q6 []) .ret))⟩
theorem ok28:okF Tryz.prog 28 d28=true:=by kernel_rfl
def r3_1:LJ:=[jl 12 37 true 2,jc 13 5 [12],jm 11 13,je 14 11 0,je 15 11 1,ja 5 46 [.ints .u8 32 (replicate 32 0),.one (.slice none 0 0)],js' 33 5 14,jm 6 15]
def r3_2:LJ:=[jm 16 6,jb 17 .neq 16 (ci 0),jm 18 17,.lg true 18 22 none [.op ⟨some 19,(some (18,false)),.fa 0 3⟩,.op ⟨some 20,(some (18,false)),.ld 1 false 19⟩,.op ⟨some 21,(some (18,false)),.bin .lss 20 (ci 1)⟩] 21,jm 23 22,.lg true 23 27 none [.op ⟨some 24,(some (23,false)),.fa 0 3⟩,.op ⟨some 25,(some (23,false)),.ld 1 false 24⟩,.op ⟨some 26,(some (23,false)),.bin .gtr 25 (ci 7)⟩] 26]
def r3_3:LJ:=[jm 28 6,jb 29 .eql 28 (ci 0),jl 30 37 true 2,jc 31 6 [30],jb 32 .eql 31 (ci 0),oj 33 (.beq false 29 32),jm 34 33,.lg false 34 36 none [.op ⟨some 35,(some (34,true)),.call 7 []⟩] 35,jm 4 36]
def r3_8:LJ:=[jm 43 7,jb 44 .geq 43 (ci 1),jm 45 44,.lg false 45 50 none [.op ⟨some 46,(some (45,true)),.mv 7⟩,.op ⟨some 47,(some (45,true)),.fa 0 2⟩,.op ⟨some 48,(some (45,true)),.ld 1 false 47⟩,.op ⟨some 49,(some (45,true)),.bin .leq 46 48⟩] 49,jm 8 50]
def Z0q8:LJ:=[jl 54 37 true 2,jm 55 7,jc 56 8 [54,55],jm 53 56,je 57 53 0,je 58 53 1,ja 9 23 [.ints .u8 32 (replicate 32 0)],js' 32 9 57,jm 10 58]
def Z0q9:LJ:=[jm 59 10,jm 60 59,.lg false 60 71 none [.op ⟨some 61,(some (60,true)),.ld 33 true 5⟩,.op ⟨some 62,(some (60,true)),.ld 32 true 9⟩,.op ⟨some 63,(some (60,true)),.ld 754 true 3⟩,.op ⟨some 64,(some (60,true)),.call 9 [61,62,63]⟩,.op ⟨some 65,(some (60,true)),.mv 8⟩,.op ⟨some 66,(some (60,true)),.mv 65⟩,.lg false 66 69 (some (60,true)) [.op ⟨some 67,(some (66,true)),.ld 754 true 3⟩,.op ⟨some 68,(some (66,true)),.call 10 [67]⟩] 68,.op ⟨some 70,(some (60,true)),.beq false 64 69⟩] 70,jm 72 71,.lg false 72 74 none [.op ⟨some 73,(some (72,true)),.call 7 []⟩] 73,jm 4 74]
def d3:FnD:=⟨75,[.tmp 4],(.sq [jx 2 25 0,jx 3 42 1,jm 4 (.const (.bool false))] (.sq r3_1 (.seq (.sq r3_2 (.cond 27 (.sq r3_3 .ret) .skip)) (.sq [jm 7 (ci 0)] (.sq [jm 8 (.const (.bool true))] (.seq (.sq [jf 37 0 3,jl 38 1 false 37,jb 39 .eql 38 (ci 3)] (.cond 39 (.sq [jf 40 263 3,jf 41 1 40,jl 42 1 false 41,jm 7 42] (.sq r3_8 (.sq [jm 51 8,oj 52 (.un .not 51)] (.cond 52 (.ops [jm 7 (ci 0)]) .skip)))) .skip)) (.sq Z0q8 (.sq Z0q9 .ret))))))))⟩
theorem ok3:okF Tryz.prog 3 d3=true:=by kernel_rfl
def Z0pt:LJ:=[jf 20 132 3,jl 21 1 false 20,jm 22 21,.lg false 22 31 none [.op ⟨some 23,(some (22,true)),.ld 33 true 2⟩,.op ⟨some 24,(some (22,true)),.fa 0 3⟩,.op ⟨some 25,(some (22,true)),.ld 99 true 24⟩,.op ⟨some 26,(some (22,true)),.fa 133 3⟩,.op ⟨some 27,(some (22,true)),.ld 64 true 26⟩,.op ⟨some 28,(some (22,true)),.bd [.one (.int .i64 0),.one (.int .i64 0),.one (.int .i64 0),.ints .u8 32 (replicate 32 0),.ints .u8 64 (replicate 64 0),.ints .u8 64 (replicate 64 0)] [(0,99,25),(99,64,27)]⟩,.op ⟨some 29,(some (22,true)),.call 25 [23,28]⟩,.op ⟨some 30,(some (22,true)),.un .not 29⟩] 30,jm 14 31]
def Z0pu:LJ:=[jf 32 197 3,jl 33 1 false 32,jm 34 33,.lg false 34 43 none [.op ⟨some 35,(some (34,true)),.ld 33 true 2⟩,.op ⟨some 36,(some (34,true)),.fa 0 3⟩,.op ⟨some 37,(some (34,true)),.ld 99 true 36⟩,.op ⟨some 38,(some (34,true)),.fa 198 3⟩,.op ⟨some 39,(some (34,true)),.ld 64 true 38⟩,.op ⟨some 40,(some (34,true)),.bd [.one (.int .i64 0),.one (.int .i64 0),.one (.int .i64 0),.ints .u8 32 (replicate 32 0),.ints .u8 64 (replicate 64 0),.ints .u8 64 (replicate 64 0)] [(0,99,37),(99,64,39)]⟩,.op ⟨some 41,(some (34,true)),.call 28 [35,40]⟩,.op ⟨some 42,(some (34,true)),.un .not 41⟩] 42,jm 14 43]
def Z0pv:LJ:=[jf 45 100 3,jl 46 32 true 45,jf 47 99 3,jl 48 1 false 47,jf 49 0 3,jf 50 3 49,jl 51 32 true 50,jc 52 51 [46,48,51],oj 53 (.un .not 52),jm 44 53]
def Z0j2:IC:=(.seq (.sq [jl 15 33 true 2,jf 16 0 3,jl 17 99 true 16,jc 18 24 [15,17],oj 19 (.un .not 18),jm 14 19] (.cond 14 .skip (.sq Z0pt (.cond 14 .skip (.ops Z0pu))))) (.cond 14 (.sq [jm 4 (ci 110)] .ret) (.sq Z0pv (.cond 44 (.sq [jm 4 (ci 150)] .ret) .skip))))
def d16:FnD:=⟨54,[.tmp 4],(.sq [jx 2 46 0,jx 3 63 1,jm 4 (ci 0)] (.seq (.sq [jl 8 262 true 3,jc 9 50 [8],jm 7 9,je 10 7 0,je 11 7 1,jm 5 10,jm 6 11] (.sq [jm 12 6,jb 13 .neq 12 (ci 0)] (.cond 13 (.sq [jm 4 (ci 2)] .ret) .skip))) (.seq (.block 0 Z0j2) (.sq [jm 4 (ci 0)] .ret))))⟩
theorem ok16:okF Tryz.prog 16 d16=true:=by kernel_rfl
def r4_1:LJ:=[jl 30 37 true 7,jc 31 5 [30],jm 29 31,je 32 29 0,je 33 29 1,ja 15 46 [.ints .u8 32 (replicate 32 0),.one (.slice none 0 0)],js' 33 15 32,jm 16 33]
def r4_2:LJ:=[jl 35 37 true 7,jc 36 8 [35,(ci 0)],jm 34 36,je 37 34 0,je 38 34 1,ja 17 23 [.ints .u8 32 (replicate 32 0)],js' 32 17 37,jm 18 38]
def r4_6:LJ:=[jm 41 21,jf 42 1 8,jl 43 1 false 42,jb 44 .lss 41 43,jm 45 44,.lg false 45 48 none [.op ⟨some 46,(some (45,true)),.mv 21⟩,.op ⟨some 47,(some (45,true)),.bin .lss 46 (ci 4096)⟩] 47]
def k4_1:IC:=(.seq (.sq [jm 51 21,jf 52 1 8,jl 53 1 false 52,jm 54 3,jb 55 .sub 53 54,jb 56 .eql 51 55] (.cond 56 (.ops [jl 57 32 true 19,js' 32 20 57]) .skip)) (.ops [oj 58 (.sla 32 1 19 none none none),jc 59 11 [58],js' 32 19 59]))
def l4_1:IC:=(.seq (.sq r4_6 (.cond 48 .skip (.exit 0))) (.seq (.block 1 k4_1) (.ops [jm 49 21,jb 50 .add 49 (ci 1),jm 21 50])))
def k4_0:IC:=(.loop l4_1)
def Z0qo:LJ:=[jm 70 16,jb 71 .neq 70 (ci 0),jm 72 71,.lg true 72 75 none [.op ⟨some 73,(some (72,false)),.mv 18⟩,.op ⟨some 74,(some (72,false)),.un .not 73⟩] 74,jm 76 75,.lg true 76 79 none [.op ⟨some 77,(some (76,false)),.mv 23⟩,.op ⟨some 78,(some (76,false)),.bin .neq 77 (ci 0)⟩] 78,jm 80 79,.lg true 80 83 none [.op ⟨some 81,(some (80,false)),.mv 3⟩,.op ⟨some 82,(some (80,false)),.bin .lss 81 (ci 0)⟩] 82,jm 84 83,.lg true 84 89 none [.op ⟨some 85,(some (84,false)),.mv 3⟩,.op ⟨some 86,(some (84,false)),.fa 1 8⟩,.op ⟨some 87,(some (84,false)),.ld 1 false 86⟩,.op ⟨some 88,(some (84,false)),.bin .gtr 85 87⟩] 88]
def Z0qp:Sch:=(.P 3 (jm 94 3) (.P 5 (jm 96 4) (.P 6 (jm 97 5) (.Q 0 (jl 91 32 true 17) (.Q 1 (jl 92 99 true 8) (.P 2 (jc 93 13 [91,92]) (.Q 4 (jl 95 32 true 20) (.P 7 (jd 98 [.one (.int .i64 0),.one (.int .i64 0),.one (.int .i64 0),.ints .u8 32 (replicate 32 0),.ints .u8 64 (replicate 64 0),.one (.int .i64 0),.ints .u8 32 (replicate 32 0),.one (.bool false),.ints .u8 64 (replicate 64 0),.one (.bool false),.ints .u8 64 (replicate 64 0)] [(0,99,93),(99,1,94),(100,32,95),(132,1,96),(197,1,97)]) (.e 8 (oi 24 (.al 63 [.one (.int .i64 0),.one (.int .i64 0),.one (.int .i64 0),.ints .u8 32 (replicate 32 0),.ints .u8 64 (replicate 64 0),.one (.int .i64 0),.ints .u8 32 (replicate 32 0),.one (.bool false),.ints .u8 64 (replicate 64 0),.one (.bool false),.ints .u8 64 (replicate 64 0)])) (.e 9 (jo' 262 24 98) .nil))))))))))
def Z0qq:LJ:=[jl 100 32 true 17,jf 101 0 24,jl 102 99 true 101,jd 103 [.one (.int .i64 0),.one (.int .i64 0),.one (.int .i64 0),.ints .u8 32 (replicate 32 0),.ints .u8 64 (replicate 64 0),.ints .u8 64 (replicate 64 0)] [(0,99,102)],jc 104 14 [100,103],oj 105 (.fld 99 64 true 104),jf 106 133 24,js' 64 106 105]
def Z0qr:LJ:=[jl 108 32 true 17,jf 109 0 24,jl 110 99 true 109,jd 111 [.one (.int .i64 0),.one (.int .i64 0),.one (.int .i64 0),.ints .u8 32 (replicate 32 0),.ints .u8 64 (replicate 64 0),.ints .u8 64 (replicate 64 0)] [(0,99,110)],jc 112 15 [108,111],oj 113 (.fld 99 64 true 112),jf 114 198 24,js' 64 114 113]
def Z0qs:LJ:=[jl 119 262 true 24,ja 25 63 [.one (.int .i64 0),.one (.int .i64 0),.one (.int .i64 0),.ints .u8 32 (replicate 32 0),.ints .u8 64 (replicate 64 0),.one (.int .i64 0),.ints .u8 32 (replicate 32 0),.one (.bool false),.ints .u8 64 (replicate 64 0),.one (.bool false),.ints .u8 64 (replicate 64 0)],js' 262 25 119]
def Z0qt:LJ:=[jl 128 262 true 24,ja 26 63 [.one (.int .i64 0),.one (.int .i64 0),.one (.int .i64 0),.ints .u8 32 (replicate 32 0),.ints .u8 64 (replicate 64 0),.one (.int .i64 0),.ints .u8 32 (replicate 32 0),.one (.bool false),.ints .u8 64 (replicate 64 0),.one (.bool false),.ints .u8 64 (replicate 64 0)],js' 262 26 128]
def Z0qu:LJ:=[jl 137 262 true 24,ja 27 63 [.one (.int .i64 0),.one (.int .i64 0),.one (.int .i64 0),.ints .u8 32 (replicate 32 0),.ints .u8 64 (replicate 64 0),.one (.int .i64 0),.ints .u8 32 (replicate 32 0),.one (.bool false),.ints .u8 64 (replicate 64 0),.one (.bool false),.ints .u8 64 (replicate 64 0)],js' 262 27 137]
def Z0qv:LJ:=[jl 145 262 true 24,ja 28 63 [.one (.int .i64 0),.one (.int .i64 0),.one (.int .i64 0),.ints .u8 32 (replicate 32 0),.ints .u8 64 (replicate 64 0),.one (.int .i64 0),.ints .u8 32 (replicate 32 0),.one (.bool false),.ints .u8 64 (replicate 64 0),.one (.bool false),.ints .u8 64 (replicate 64 0)],js' 262 28 145]
def Z0qw:LJ:=[jl 153 33 true 15,jl 154 262 true 26,jc 155 16 [153,154],jb 156 .neq 155 (ci 110),jm 157 156,.lg true 157 162 none [.op ⟨some 158,(some (157,false)),.ld 33 true 15⟩,.op ⟨some 159,(some (157,false)),.ld 262 true 27⟩,.op ⟨some 160,(some (157,false)),.call 16 [158,159]⟩,.op ⟨some 161,(some (157,false)),.bin .neq 160 (ci 110)⟩] 161,jm 163 162,.lg true 163 168 none [.op ⟨some 164,(some (163,false)),.ld 33 true 15⟩,.op ⟨some 165,(some (163,false)),.ld 262 true 28⟩,.op ⟨some 166,(some (163,false)),.call 16 [164,165]⟩,.op ⟨some 167,(some (163,false)),.bin .neq 166 (ci 110)⟩] 167]
def d4:FnD:=⟨170,[.tmp 14],(.sq [jx 7 25 0,jx 8 29 1,jx 9 23 2,jx 13 23 6,jm 14 (.const (.bool false))] (.sq r4_1 (.sq r4_2 (.sq [jl 39 32 true 9,ja 19 23 [.ints .u8 32 (replicate 32 0)],js' 32 19 39] (.sq [jl 40 32 true 9,ja 20 23 [.ints .u8 32 (replicate 32 0)],js' 32 20 40] (.seq (.sq [jm 21 (ci 0)] (.block 0 k4_0)) (.seq (.sq [jm 60 3,jb 61 .eql 60 (ci 0)] (.cond 61 (.ops [jl 62 32 true 19,js' 32 20 62]) .skip)) (.sq [jl 63 32 true 19,jf 64 3 8,js' 32 64 63] (.sq [jl 66 99 true 8,jc 67 12 [66],jm 65 67,je 68 65 0,je 69 65 1,jm 22 68,jm 23 69] (.seq (.sq Z0qo (.cond 89 (.sq [jc 90 7 [],jm 14 90] .ret) .skip)) (.seq (.draw Z0qp [9]) (.seq (.sq [jm 99 4] (.cond 99 (.ops Z0qq) .skip)) (.seq (.sq [jm 107 5] (.cond 107 (.ops Z0qr) .skip)) (.seq (.sq [jl 115 33 true 15,jl 116 262 true 24,jc 117 16 [115,116],jb 118 .neq 117 (ci 0)] (.cond 118 (.sq [jm 14 (.const (.bool false))] .ret) .skip)) (.sq Z0qs (.sq [jf 120 1 8,jl 121 1 false 120,jb 122 .add 121 (ci 1),jf 123 99 25,js' 1 123 122] (.seq (.sq [jl 124 33 true 15,jl 125 262 true 25,jc 126 16 [124,125],jb 127 .neq 126 (ci 2)] (.cond 127 (.sq [jm 14 (.const (.bool false))] .ret) .skip)) (.sq Z0qt (.sq [jl 129 32 true 13,jf 130 100 26,js' 32 130 129] (.sq [jf 131 0 24,jf 132 35 131,jl 133 64 true 132,jc 134 17 [133],jf 135 0 26,jf 136 35 135,js' 64 136 134] (.sq Z0qu (.sq [jl 138 32 true 13,jf 139 100 27,js' 32 139 138] (.sq [jf 140 132 27,js' 1 140 (.const (.bool true))] (.sq [jf 141 133 24,jl 142 64 true 141,jc 143 17 [142],jf 144 133 27,js' 64 144 143] (.sq Z0qv (.sq [jl 146 32 true 13,jf 147 100 28,js' 32 147 146] (.sq [jf 148 197 28,js' 1 148 (.const (.bool true))] (.sq [jf 149 198 24,jl 150 64 true 149,jc 151 17 [150],jf 152 198 28,js' 64 152 151] (.seq (.sq Z0qw (.cond 168 (.sq [jm 14 (.const (.bool false))] .ret) .skip)) (.sq [jc 169 7 [],jm 14 169] .ret))))))))))))))))))))))))))))))⟩
theorem ok4:okF Tryz.prog 4 d4=true:=by kernel_rfl
end Go.Proofs.YteefpkhngighgaaGreatDoor
namespace Go.Proofs.YteefpkhngighgaaGreatDoor
open Go Go.Sx Go.RowKit
set_option linter.all false
set_option maxHeartbeats 400000
set_option maxRecDepth 100000
theorem mo:Tryz.prog.follows .mixedOrders=true:=by kernel_rfl
theorem Zid:ExtF Tryz.prog 230 add64Entry:=⟨Tryz.f230,Tryz.func230,by kernel_rfl,by kernel_rfl,by kernel_rfl,by kernel_rfl⟩
theorem Z04t:ExtF Tryz.prog 358 Zhq:=⟨Tryz.f358,Tryz.func358,by kernel_rfl,by kernel_rfl,by kernel_rfl,by kernel_rfl⟩
theorem Zn3 {W:World} {n:Int} {f g:FuncId} :
  Calls Tryz.prog 243 [.int .i64 n,.func (.func f) #[] #[],.func (.func g) #[] #[]].toArray W (Z8e W [] (fun v Ms=>∃ (b1:Nat) (T1:TypeId) (b2:Nat) (T2:TypeId) (b3:Nat) (T3:TypeId),v = .func (.func 337) #[] #[.pointer (some ⟨b1,0,none⟩),.pointer (some ⟨b2,0,none⟩),.pointer (some ⟨b3,0,none⟩)]/\Ms = [.one (ck b1 T1 [.one (.int .i64 (n))]),.one (ck b2 T2 [.one (.func (.func g) #[] #[])]),.one (ck b3 T3 [.one (.func (.func f) #[] #[])])])):=by
 refine Zs mo Z0nf rfl (Zez _) ?_
 refine Z0<|Z1<|Zc (Zdf rfl rfl fun b1 hb1=>Zc (Zdf rfl rfl fun b2 hb2=>Zc (Zdf rfl rfl fun b3 hb3=>Z4 _ (Z04 rfl)<|Z2<|Z0<|Z1<|Z4 _ (Zqi rfl)<|Z4 _ (Z04 rfl)<|Z2<|Zf ?_)))
 exact ⟨_,_,.cons (.tmp rfl) .nil,.one (.there (.there .here)) (.one .here (.one .here .nil)),⟨_,rfl,b1,_,b3,_,b2,_,rfl,rfl⟩⟩
end Go.Proofs.YteefpkhngighgaaGreatDoor
namespace Go.Proofs.YteefpkhngighgaaGreatDoor
open Go Go.Sx Go.RowKit
open List (replicate)
open Go.IntKind (wrap)
set_option linter.all false
set_option maxHeartbeats 400000
set_option maxRecDepth 100000
def ng:Nat:=5
def G_first256:LI:=[1779033703,3144134277,1013904242,2773480762,1359893119,2600822924,528734635,1541459225]
def G_table256:LI:=[1116352408,1899447441,3049323471,3921009573,961987163,1508970993,2453635748,2870763221,3624381080,310598401,607225278,1426881987,1925078388,2162078206,2614888103,3248222580,3835390401,4022224774,264347078,604807628,770255983,1249150122,1555081692,1996064986,2554220882,2821834349,2952996808,3210313671,3336571891,3584528711,113926993,338241895,666307205,773529912,1294757372,1396182291,1695183700,1986661051,2177026350,2456956037,2730485921,2820302411,3259730800,3345764771,3516065817,3600352804,4094571909,275423344,430227734,506948616,659060556,883997877,958139571,1322822218,1537002063,1747873779,1955562222,2024104815,2227730452,2361852424,2428436474,2756734187,3204031479,3329325298]
def G_first:LI:=[7640891576956012808,13503953896175478587,4354685564936845355,11912009170470909681,5840696475078001361,11170449401992604703,2270897969802886507,6620516959819538809]
def G_order:LI:=[6346243789798364141,1503914060200516822,0,1152921504606846976]
def G_table:LI:=[4794697086780616226,8158064640168781261,13096744586834688815,16840607885511220156,4131703408338449720,6480981068601479193,10538285296894168987,12329834152419229976,15566598209576043074,1334009975649890238,2608012711638119052,6128411473006802146,8268148722764581231,9286055187155687089,11230858885718282805,13951009754708518548,16472876342353939154,17275323862435702243,1135362057144423861,2597628984639134821,3308224258029322869,5365058923640841347,6679025012923562964,8573033837759648693,10970295158949994411,12119686244451234320,12683024718118986047,13788192230050041572,14330467153632333762,15395433587784984357,489312712824947311,1452737877330783856,2861767655752347644,3322285676063803686,5560940570517711597,5996557281743188959,7280758554555802590,8532644243296465576,9350256976987008742,10552545826968843579,11727347734174303076,12113106623233404929,14000437183269869457,14369950271660146224,15101387698204529176,15463397548674623760,17586052441742319658,1182934255886127544,1847814050463011016,2177327727835720531,2830643537854262169,3796741975233480872,4115178125766777443,5681478168544905931,6601373596472566643,7507060721942968483,8399075790359081724,8693463985226723168,9568029438360202098,10144078919501101548,10430055236837252648,11840083180663258601,13761210420658862357,14299343276471374635,14566680578165727644,15097957966210449927,16922976911328602910,17689382322260857208,500013540394364858,748580250866718886,1242879168328830382,1977374033974150939,2944078676154940804,3659926193048069267,4368137639120453308,4836135668995329356,5532061633213252278,6448918945643986474,6902733635092675308,7801388544844847127]
structure Globs (W:World):Prop where
  g0:Mem W 0 0 [.ints .u32 8 G_first256]
  g1:Mem W 1 0 [.ints .u32 64 G_table256]
  g2:Mem W 2 0 [.ints .u64 8 G_first]
  g3:Mem W 3 0 [.ints .u64 4 G_order]
  g4:Mem W 4 0 [.ints .u64 80 G_table]
theorem Globs.at {C:Cfg} {m:List Ze} {w:World} (h:Globs C.W0) (hw:Sat C.W0 C.S m w) (hS : ∀ g,g<ng->g∉C.S):Globs w:=⟨Z6w h.g0 (hS 0 (by decide)) hw,Z6w h.g1 (hS 1 (by decide)) hw,Z6w h.g2 (hS 2 (by decide)) hw,Z6w h.g3 (hS 3 (by decide)) hw,Z6w h.g4 (hS 4 (by decide)) hw⟩
theorem Globs.ap {C:Cfg} {m:List Ze} {w:World} {b:Nat} {o:Obj} (h:Globs C.W0) (hS : ∀ g,g<ng->g∉C.S) (hb:Has b o m) (hw:Sat C.W0 C.S m w) : ∀ g,g<ng->g ∉ [b]:=by
  intro g hg hm
  simp only [List.mem_singleton] at hm
  subst hm
  rcases hw.base _ hb.mem with h1 | h1
  · have h2:=h.g4.lt
    have h3:ng=5:=rfl
    simp only at h1
    omega
  · exact hS _ hg h1
structure Zt where
  gbytes:LI
  gfault:Int
def Zb9:Option (Zt) :=
 some (⟨[],0⟩:Zt)
theorem Zim {W:World} {r:Zt} (h:Zb9=some r)  :
    Calls Tryz.prog 200 [].toArray W (Z8e W [] (fun v Ms=>∃ (b1:Nat) (T0:TypeId) (u0:Value) (M1:List Ze),v = pt' b1/\Ms = [.one (ck b1 T0 [.one (u0),.one (.int .i64 (r.gfault))]),.all M1]/\Z09 (El.int .u8) u0 M1 r.gbytes)):=by
 unfold Zb9 at h
 refine Zs mo Z0ma rfl (Zez _) ?_
 refine Z0<|Z1<|Z8 rfl<|Z2<|Z0<|Z1<|Z4 _ (Zcd (q:=[.one (.slice none 0 0),.one (.int .i64 (0))]) BdR.nil)<|Zc (Z06 (s:=[.one (.slice none 0 0),.one (.int .i64 (0))]) rfl fun b2 hb1=>Z8 rfl<|Z2<|Zf ?_)
 revert h; refine Z01 fun h=>?_
 subst h
 exact ⟨_,_,(.cons (.tmp rfl) .nil),(.o (.no .nil)),⟨_,rfl,⟨b2,375,(.slice none 0 0),[],rfl,rfl,Zao⟩⟩⟩
def Z3b (p0:Zt) (p1:LI):Option (Zt) :=
 br ((p0.gfault==0)) (
 chk (decide ((p0.gbytes.length+p1.length)*1<=140737488355328)) <|
 bnd (p0.gbytes++p1) fun l1 =>
 some (⟨l1,p0.gfault⟩:Zt)
 ) (
 some p0
 )
theorem Z4f {W:World} {r:Zt} {p0:Zt} {p1:LI} {v0:Value} {M1:List Ze} {v1:Value} {b:Nat} {T:TypeId} (h:Z3b p0 p1=some r) (h0:Sat W (b::M1.map (·.b)) (ck b T [.one (v0),.one (.int .i64 (p0.gfault))]::(M1 ++ [])) W) (O1:Z09 (El.int .u8) v0 M1 p0.gbytes) (A1:Z6m (El.int .u8) W v1 p1/\Zcl v1 p1 (b::M1.map (·.b))) :
    Calls Tryz.prog 294 [.pointer (some ⟨b,0,none⟩),v1].toArray W (Z8e W (b::M1.map (·.b)) (fun v Ms=>∃ (uw:Value) (Mw:List Ze),v = .tuple #[]/\Ms = [.one (ck b T [.one (uw),.one (.int .i64 (r.gfault))]),.all Mw]/\Z09 (El.int .u8) uw Mw r.gbytes)):=by
 unfold Z3b at h
 refine Zs mo Z0nx rfl h0 ?_
 refine Z0<|Z1<|Z8 rfl<|Z4 _ (Z1l rfl)<|Z4 _ (Z1v rfl)<|Z4 _ (Z0p rfl .here rfl)<|Z4 _ (Zb rfl rfl rfl)<|Z2<|Z0r h rfl (fun h=>?_) (fun h=>?_)
 ·refine cH h fun c1 h=>bH h fun l1 g1 h=>Z1<|Z8 rfl<|Z8 rfl<|Z4 _ (Z1l rfl)<|Z4 _ (Z1v rfl)<|Z4 _ (Z0p rfl .here rfl)<|Z8 rfl<|Zc (Z9r (E:=(El.int .u8)) g1 rfl O1 .t1 rfl (Z1m A1.1 A1.2) c1 fun v6 w1 O2=>Z4 _ (Z1l rfl)<|Z4 _ (Z1v rfl)<|Zc (Zgc (q:=[.one (v6),.one (.int .i64 (p0.gfault))]) rfl rfl (Z9i.one1 (Z09.isSl O2)) rfl (.app .here)<|Z2 ?_))
  revert h; refine Z01 fun h=>?_
  subst h
  exact ⟨_,_,.nil,(.one (.app .here) (.all .here .nil)),⟨_,rfl,⟨v6,w1,rfl,rfl,O2⟩⟩⟩
 ·refine Zn ?_
  revert h; refine Z01 fun h=>?_
  subst h
  exact ⟨_,_,.nil,(.o (.all .here .nil)),⟨_,rfl,⟨v0,M1,rfl,rfl,O1⟩⟩⟩
def Z2y (p0:Zt) (p1:LI):Option (Zt) :=
 opt (Z3b p0 p1) fun y1 =>
 some y1
theorem Z78 {W:World} {r:Zt} {p0:Zt} {p1:LI} {v0:Value} {M1:List Ze} {v1:Value} {b:Nat} {T:TypeId} (h:Z2y p0 p1=some r) (h0:Sat W (b::M1.map (·.b)) (ck b T [.one (v0),.one (.int .i64 (p0.gfault))]::(M1 ++ [])) W) (O1:Z09 (El.int .u8) v0 M1 p0.gbytes) (A1:Z6m (El.int .u8) W v1 p1/\Zcl v1 p1 (b::M1.map (·.b))) :
    Calls Tryz.prog 196 [.pointer (some ⟨b,0,none⟩),v1].toArray W (Z8e W (b::M1.map (·.b)) (fun v Ms=>∃ (uw:Value) (Mw:List Ze),v = .tuple #[]/\Ms = [.one (ck b T [.one (uw),.one (.int .i64 (r.gfault))]),.all Mw]/\Z09 (El.int .u8) uw Mw r.gbytes)):=by
 unfold Z2y at h
 refine Zs mo Z0m9 rfl h0 ?_
 refine oH h fun y1 f1 h=>Z1<|Z8 rfl<|Z8 rfl<|Zc (Z2z (mS:=_::M1) rfl (Zab .here .here) (fun w hw=>Z4f  f1 (Z7f hw (Zab .here .here)) O1 ⟨(Z1m A1.1 A1.2) w hw,(Zn9 (Zuj (E:=(El.int .u8)) A1.1 A1.2 .here hw) (Zuk (E:=(El.int .u8)) A1.1 A1.2 .t1 hw))⟩) fun v3 o1 R1=>?_)
 obtain ⟨v5,w1,rfl,rfl,O2⟩:=R1
 refine Z2 ?_
 revert h; refine Z01 fun h=>?_
 subst h
 exact ⟨_,_,.nil,(.o (.all .here .nil)),⟨_,rfl,⟨v5,w1,rfl,rfl,O2⟩⟩⟩
def Z8b (k1:Int->Option Int) (k2:Int->Int->Option Int) (i1:Int) (i2:Int):Option Int :=
 br ((i2 != 0)) (
 bnd (wrap .i64 (i1+1)) fun z1 =>
 bnd (Zr .u32 i2 1) fun z2 =>
 k2 z1 z2
 ) (
 k1 i1
 )
def Z4c (k1:Int->Option Int):Nat->Int->Int->Option Int
  | 0,_,_=>none
  | n+1,i1,i2=>Z8b k1 (Z4c k1 n) i1 i2
def Z4m:Option Int :=
 bnd (Z7 .xor .u32 4294967295 0) fun z1 =>
 jn (fun (i1:Int)=>some i1) fun k1=>Z4c k1 big 0 z1
theorem Z76 {W:World} {r:Int} (h:Z4m=some r)  :
    Calls Tryz.prog 183 [].toArray W (Z3c W (.int .i64 (r))):=by
 unfold Z4m at h
 refine Za mo Z0m4 rfl ?_
 refine Z0<|Z1<|Z8 rfl<|Z2<|Z0<|Z1<|Z8 rfl<|Z2<|Z0<|Z0<|bH h fun z1 e1 h=>Z1<|Z4 _ (Z6x rfl)<|Z4 _ (iz e1 (Zmv rfl rfl))<|Z8 rfl<|Z2<|jH h fun k1 q1 h=>Zo (G:=fun t m=>∃ (i1:Int),k1 i1=some r/\Fit [(1,.int .i64 (i1))] [] t m) ?_ ?_
 ·refine Zd<|Z07 (fun n1 t m=>∃ (i2:Int) (i3:Int),Z4c k1 n1 i2 i3=some r/\Fit [(1,.int .i64 (i2)),(2,.int .u32 (i3))] [] t m) big ?_ ?_
  ·exact ⟨0,z1,h,⟨⟨rfl,rfl,trivial⟩,.nil⟩⟩
  ·rintro n1 t m ⟨i2,i3,h,hF⟩
   refine Zm hF ?_
   clear hF
   rcases n1 with _ | n1
   · exact Z1r h
   have h:Z8b k1 (Z4c k1 n1) i2 i3=some r:=h
   unfold Z8b at h
   obtain ⟨k2,q2⟩ : ∃ k,k=Z4c k1 n1:=⟨_,rfl⟩
   try rw [<- q2] at h
   refine Z0<|Z0<|Z1<|Z8 rfl<|Z4 _ (Zb rfl rfl rfl)<|Z2<|Z0r h rfl (fun h=>?_) (fun h=>?_)
   ·refine Zn<|Z0<|Zd<|bH h fun z2 e2 h=>Z1<|Z8 rfl<|Z4 _ (iz e2 (Zb rfl rfl rfl))<|Z8 rfl<|Z2<|bH h fun z3 e3 h=>Z1<|Z8 rfl<|Z4 _ (iz e3 (Z8w rfl rfl (by decide)))<|Z8 rfl<|Z2 ?_
    rw [q2] at h
    exact ⟨n1,Nat.lt_succ_self _,z2,z3,h,⟨⟨rfl,rfl,trivial⟩,.nil⟩⟩
   ·exact Z0l _ rfl<|⟨i2,h,⟨⟨rfl,trivial⟩,.nil⟩⟩
 ·rintro t m ⟨i1,h,hF⟩
  refine Zm hF ?_
  clear hF
  subst q1
  refine Z0<|Z1<|Z8 rfl<|Z8 rfl<|Z2<|Zf ?_
  revert h; refine Z01 fun h=>?_
  subst h
  exact ⟨_,(.cons (.tmp rfl) .nil),rfl⟩
def Z73 (k1:(LI)->OL) (k2:Int->(LI)->Int->OL) (i1:Int) (l1:LI) (i2:Int):OL :=
 br ((decide (i2≥0))) (
 bnd (wrap .u8 i1) fun z1 =>
 chk (inB i2 l1.length) <|
 bnd (Zji 0 l1 (i2).toNat z1) fun l2 =>
 bnd (Zr .u32 i1 8) fun z2 =>
 bnd (wrap .i64 (i2-1)) fun z3 =>
 k2 z2 l2 z3
 ) (
 k1 l1
 )
def Z3h (k1:(LI)->OL):Nat->Int->(LI)->Int->OL
  | 0,_,_,_=>none
  | n+1,i1,l1,i2=>Z73 k1 (Z3h k1 n) i1 l1 i2
def Z4p (p0:Int):OL :=
 opt (Z4m) fun y1 =>
 bnd (wrap .i64 (Int.tdiv y1 8)) fun z1 =>
 chk (mkB 1 z1 z1) <|
 bnd (wrap .i64 (((replicate (z1).toNat 0:LI).length:Int)-1)) fun z2 =>
 jn (fun (l1:LI)=>some l1) fun k1=>Z3h k1 big p0 (replicate (z1).toNat 0:LI) z2
theorem Z91 {W:World} {r:(LI)} {p0:Int} (h:Z4p p0=some r)  :
    Calls Tryz.prog 87 [.int .u32 (p0)].toArray W (Z8e W [] (fun v Ms=>∃ (u0:Value) (M1:List Ze),v=u0/\Ms = [.all M1]/\Z09 (El.int .u8) u0 M1 r)):=by
 unfold Z4p at h
 refine Zs mo ok87 rfl (Zez _) ?_
 refine Z0<|Z1<|Z8 rfl<|Z2<|Z0<|oH h fun y1 f1 h=>bH h fun z1 e1 h=>cH h fun c1 h=>Z1<|Z4 _ (Z1d rfl (Z76 f1))<|Z4 _ (iz e1 (Zov rfl rfl (by decide)))<|Zc (Zf4 (E:=(El.int .u8)) rfl rfl rfl c1 fun v6 w1 O1=>Z8 rfl<|Z2<|Z0<|Z0<|bH h fun z2 e2 h=>Z1<|Z8 rfl<|Z4 _ (Z5j rfl (Shp.own O1))<|Z4 _ (iz e2 (Zb rfl rfl rfl))<|Z8 rfl<|Z2<|jH h fun k1 q1 h=>Zo (G:=fun t m=>∃ (l1:LI) (v61:Value) (w2:List Ze),k1 l1=some r/\Z09 (El.int .u8) v61 w2 l1/\Fit [(3,v61)] (w2 ++ []) t m) ?_ ?_)
 ·refine Zd<|Z07 (fun n1 t m=>∃ (i1:Int) (l2:LI) (i2:Int) (v97:Value) (w3:List Ze),Z3h k1 n1 i1 l2 i2=some r/\Z09 (El.int .u8) v97 w3 l2/\Fit [(0,.int .u32 (i1)),(3,v97),(4,.int .i64 (i2))] (w3 ++ []) t m) big ?_ ?_
  ·exact ⟨p0,(replicate (z1).toNat 0:LI),z2,v6,w1,h,O1,⟨⟨rfl,rfl,rfl,trivial⟩,(.all .here .nil)⟩⟩
  ·rintro n1 t m ⟨i1,l2,i2,v97,w3,h,O2,hF⟩
   refine Zm hF ?_
   clear hF
   rcases n1 with _ | n1
   · exact Z1r h
   have h:Z73 k1 (Z3h k1 n1) i1 l2 i2=some r:=h
   unfold Z73 at h
   obtain ⟨k2,q2⟩ : ∃ k,k=Z3h k1 n1:=⟨_,rfl⟩
   try rw [<- q2] at h
   refine Z0<|Z0<|Z1<|Z8 rfl<|Z4 _ (Zb rfl rfl rfl)<|Z2<|Z0r h rfl (fun h=>?_) (fun h=>?_)
   ·refine Zn<|Z0<|Zd<|Z0<|bH h fun z3 e3 h=>cH h fun c2 h=>bH h fun l3 g1 h=>Z1<|Z8 rfl<|Z8 rfl<|Z8 rfl<|Z4 _ (iz e3 (Z6x rfl))<|Z4 _ (Z7u rfl rfl (Shp.own O2) c2)<|Zc (Zlp (E:=(El.int .u8)) g1 O2 .here rfl rfl rfl (Z1i c2) fun w4 O3=>Z2<|bH h fun z4 e4 h=>Z1<|Z8 rfl<|Z4 _ (iz e4 (Z8w rfl rfl (by decide)))<|Z8 rfl<|Z2<|bH h fun z5 e5 h=>Z1<|Z8 rfl<|Z4 _ (iz e5 (Zb rfl rfl rfl))<|Z8 rfl<|Z2 ?_)
    rw [q2] at h
    exact ⟨n1,Nat.lt_succ_self _,z4,l3,z5,v97,w4,h,O3,⟨⟨rfl,rfl,rfl,trivial⟩,(.all .here .nil)⟩⟩
   ·exact Z0l _ rfl<|⟨l2,v97,w3,h,O2,⟨⟨rfl,trivial⟩,(.all .here .nil)⟩⟩
 ·rintro t m ⟨l1,v61,w2,h,O4,hF⟩
  refine Zm hF ?_
  clear hF
  subst q1
  refine Z0<|Z1<|Z8 rfl<|Z8 rfl<|Z2<|Zf ?_
  revert h; refine Z01 fun h=>?_
  subst h
  exact ⟨_,_,(.cons (.tmp rfl) .nil),(.all .here .nil),⟨_,rfl,⟨v61,w2,rfl,rfl,O4⟩⟩⟩
def Z69 (p0:Zt) (p1:Int):Option (Zt) :=
 opt (Z4p p1) fun y1 =>
 opt (Z3b p0 y1) fun y2 =>
 some y2
theorem Zhz {W:World} {r:Zt} {p0:Zt} {p1:Int} {v0:Value} {M1:List Ze} {b:Nat} {T:TypeId} (h:Z69 p0 p1=some r) (h0:Sat W (b::M1.map (·.b)) (ck b T [.one (v0),.one (.int .i64 (p0.gfault))]::(M1 ++ [])) W) (O1:Z09 (El.int .u8) v0 M1 p0.gbytes) :
    Calls Tryz.prog 185 [.pointer (some ⟨b,0,none⟩),.int .u32 (p1)].toArray W (Z8e W (b::M1.map (·.b)) (fun v Ms=>∃ (uw:Value) (Mw:List Ze),v = .tuple #[]/\Ms = [.one (ck b T [.one (uw),.one (.int .i64 (r.gfault))]),.all Mw]/\Z09 (El.int .u8) uw Mw r.gbytes)):=by
 unfold Z69 at h
 refine Zs mo Z0m5 rfl h0 ?_
 refine oH h fun y1 f1 h=>oH h fun y2 f2 h=>Z1<|Z8 rfl<|Z8 rfl<|Zc (Zk rfl (fun w hw=>Z91  f1 ) fun v3 o1 R1=>?_)
 obtain ⟨_,w1,rfl,rfl,O2⟩:=R1
 refine Zc (Z2z (mS:=_::M1) rfl (Zab (.app .here) (.app .here)) (fun w hw=>Z4f  f2 (Z7f hw (Zab (.app .here) (.app .here))) O1 ⟨(Z0b O2 .here) w hw,(Zn9 (Zco (E:=(El.int .u8)) O2 .here .here hw) (Ze6 (E:=(El.int .u8)) O2 .here .t1 hw))⟩) fun v9 o2 R2=>?_)
 obtain ⟨v11,w2,rfl,rfl,O3⟩:=R2
 refine Z2 ?_
 revert h; refine Z01 fun h=>?_
 subst h
 exact ⟨_,_,.nil,(.o (.all .here .nil)),⟨_,rfl,⟨v11,w2,rfl,rfl,O3⟩⟩⟩
def Z8c (k1:Int->Option Int) (k2:Int->Int->Option Int) (i1:Int) (i2:Int):Option Int :=
 br ((i2 != 0)) (
 bnd (wrap .i64 (i1+1)) fun z1 =>
 bnd (Zr .u64 i2 1) fun z2 =>
 k2 z1 z2
 ) (
 k1 i1
 )
def Z4d (k1:Int->Option Int):Nat->Int->Int->Option Int
  | 0,_,_=>none
  | n+1,i1,i2=>Z8c k1 (Z4d k1 n) i1 i2
def Z4n:Option Int :=
 bnd (Z7 .xor .u64 18446744073709551615 0) fun z1 =>
 jn (fun (i1:Int)=>some i1) fun k1=>Z4d k1 big 0 z1
theorem Z51 {W:World} {r:Int} (h:Z4n=some r)  :
    Calls Tryz.prog 123 [].toArray W (Z3c W (.int .i64 (r))):=by
 unfold Z4n at h
 refine Za mo Z0ln rfl ?_
 refine Z0<|Z1<|Z8 rfl<|Z2<|Z0<|Z1<|Z8 rfl<|Z2<|Z0<|Z0<|bH h fun z1 e1 h=>Z1<|Z4 _ (Z6x rfl)<|Z4 _ (iz e1 (Zmv rfl rfl))<|Z8 rfl<|Z2<|jH h fun k1 q1 h=>Zo (G:=fun t m=>∃ (i1:Int),k1 i1=some r/\Fit [(1,.int .i64 (i1))] [] t m) ?_ ?_
 ·refine Zd<|Z07 (fun n1 t m=>∃ (i2:Int) (i3:Int),Z4d k1 n1 i2 i3=some r/\Fit [(1,.int .i64 (i2)),(2,.int .u64 (i3))] [] t m) big ?_ ?_
  ·exact ⟨0,z1,h,⟨⟨rfl,rfl,trivial⟩,.nil⟩⟩
  ·rintro n1 t m ⟨i2,i3,h,hF⟩
   refine Zm hF ?_
   clear hF
   rcases n1 with _ | n1
   · exact Z1r h
   have h:Z8c k1 (Z4d k1 n1) i2 i3=some r:=h
   unfold Z8c at h
   obtain ⟨k2,q2⟩ : ∃ k,k=Z4d k1 n1:=⟨_,rfl⟩
   try rw [<- q2] at h
   refine Z0<|Z0<|Z1<|Z8 rfl<|Z4 _ (Zb rfl rfl rfl)<|Z2<|Z0r h rfl (fun h=>?_) (fun h=>?_)
   ·refine Zn<|Z0<|Zd<|bH h fun z2 e2 h=>Z1<|Z8 rfl<|Z4 _ (iz e2 (Zb rfl rfl rfl))<|Z8 rfl<|Z2<|bH h fun z3 e3 h=>Z1<|Z8 rfl<|Z4 _ (iz e3 (Z8w rfl rfl (by decide)))<|Z8 rfl<|Z2 ?_
    rw [q2] at h
    exact ⟨n1,Nat.lt_succ_self _,z2,z3,h,⟨⟨rfl,rfl,trivial⟩,.nil⟩⟩
   ·exact Z0l _ rfl<|⟨i2,h,⟨⟨rfl,trivial⟩,.nil⟩⟩
 ·rintro t m ⟨i1,h,hF⟩
  refine Zm hF ?_
  clear hF
  subst q1
  refine Z0<|Z1<|Z8 rfl<|Z8 rfl<|Z2<|Zf ?_
  revert h; refine Z01 fun h=>?_
  subst h
  exact ⟨_,(.cons (.tmp rfl) .nil),rfl⟩
def Z74 (k1:(LI)->OL) (k2:Int->(LI)->Int->OL) (i1:Int) (l1:LI) (i2:Int):OL :=
 br ((decide (i2≥0))) (
 bnd (wrap .u8 i1) fun z1 =>
 chk (inB i2 l1.length) <|
 bnd (Zji 0 l1 (i2).toNat z1) fun l2 =>
 bnd (Zr .u64 i1 8) fun z2 =>
 bnd (wrap .i64 (i2-1)) fun z3 =>
 k2 z2 l2 z3
 ) (
 k1 l1
 )
def Z3i (k1:(LI)->OL):Nat->Int->(LI)->Int->OL
  | 0,_,_,_=>none
  | n+1,i1,l1,i2=>Z74 k1 (Z3i k1 n) i1 l1 i2
def Z0s (p0:Int):OL :=
 opt (Z4n) fun y1 =>
 bnd (wrap .i64 (Int.tdiv y1 8)) fun z1 =>
 chk (mkB 1 z1 z1) <|
 bnd (wrap .i64 (((replicate (z1).toNat 0:LI).length:Int)-1)) fun z2 =>
 jn (fun (l1:LI)=>some l1) fun k1=>Z3i k1 big p0 (replicate (z1).toNat 0:LI) z2
theorem Z1x {W:World} {r:(LI)} {p0:Int} (h:Z0s p0=some r)  :
    Calls Tryz.prog 59 [.int .u64 (p0)].toArray W (Z8e W [] (fun v Ms=>∃ (u0:Value) (M1:List Ze),v=u0/\Ms = [.all M1]/\Z09 (El.int .u8) u0 M1 r)):=by
 unfold Z0s at h
 refine Zs mo ok59 rfl (Zez _) ?_
 refine Z0<|Z1<|Z8 rfl<|Z2<|Z0<|oH h fun y1 f1 h=>bH h fun z1 e1 h=>cH h fun c1 h=>Z1<|Z4 _ (Z1d rfl (Z51 f1))<|Z4 _ (iz e1 (Zov rfl rfl (by decide)))<|Zc (Zf4 (E:=(El.int .u8)) rfl rfl rfl c1 fun v6 w1 O1=>Z8 rfl<|Z2<|Z0<|Z0<|bH h fun z2 e2 h=>Z1<|Z8 rfl<|Z4 _ (Z5j rfl (Shp.own O1))<|Z4 _ (iz e2 (Zb rfl rfl rfl))<|Z8 rfl<|Z2<|jH h fun k1 q1 h=>Zo (G:=fun t m=>∃ (l1:LI) (v61:Value) (w2:List Ze),k1 l1=some r/\Z09 (El.int .u8) v61 w2 l1/\Fit [(3,v61)] (w2 ++ []) t m) ?_ ?_)
 ·refine Zd<|Z07 (fun n1 t m=>∃ (i1:Int) (l2:LI) (i2:Int) (v97:Value) (w3:List Ze),Z3i k1 n1 i1 l2 i2=some r/\Z09 (El.int .u8) v97 w3 l2/\Fit [(0,.int .u64 (i1)),(3,v97),(4,.int .i64 (i2))] (w3 ++ []) t m) big ?_ ?_
  ·exact ⟨p0,(replicate (z1).toNat 0:LI),z2,v6,w1,h,O1,⟨⟨rfl,rfl,rfl,trivial⟩,(.all .here .nil)⟩⟩
  ·rintro n1 t m ⟨i1,l2,i2,v97,w3,h,O2,hF⟩
   refine Zm hF ?_
   clear hF
   rcases n1 with _ | n1
   · exact Z1r h
   have h:Z74 k1 (Z3i k1 n1) i1 l2 i2=some r:=h
   unfold Z74 at h
   obtain ⟨k2,q2⟩ : ∃ k,k=Z3i k1 n1:=⟨_,rfl⟩
   try rw [<- q2] at h
   refine Z0<|Z0<|Z1<|Z8 rfl<|Z4 _ (Zb rfl rfl rfl)<|Z2<|Z0r h rfl (fun h=>?_) (fun h=>?_)
   ·refine Zn<|Z0<|Zd<|Z0<|bH h fun z3 e3 h=>cH h fun c2 h=>bH h fun l3 g1 h=>Z1<|Z8 rfl<|Z8 rfl<|Z8 rfl<|Z4 _ (iz e3 (Z6x rfl))<|Z4 _ (Z7u rfl rfl (Shp.own O2) c2)<|Zc (Zlp (E:=(El.int .u8)) g1 O2 .here rfl rfl rfl (Z1i c2) fun w4 O3=>Z2<|bH h fun z4 e4 h=>Z1<|Z8 rfl<|Z4 _ (iz e4 (Z8w rfl rfl (by decide)))<|Z8 rfl<|Z2<|bH h fun z5 e5 h=>Z1<|Z8 rfl<|Z4 _ (iz e5 (Zb rfl rfl rfl))<|Z8 rfl<|Z2 ?_)
    rw [q2] at h
    exact ⟨n1,Nat.lt_succ_self _,z4,l3,z5,v97,w4,h,O3,⟨⟨rfl,rfl,rfl,trivial⟩,(.all .here .nil)⟩⟩
   ·exact Z0l _ rfl<|⟨l2,v97,w3,h,O2,⟨⟨rfl,trivial⟩,(.all .here .nil)⟩⟩
 ·rintro t m ⟨l1,v61,w2,h,O4,hF⟩
  refine Zm hF ?_
  clear hF
  subst q1
  refine Z0<|Z1<|Z8 rfl<|Z8 rfl<|Z2<|Zf ?_
  revert h; refine Z01 fun h=>?_
  subst h
  exact ⟨_,_,(.cons (.tmp rfl) .nil),(.all .here .nil),⟨_,rfl,⟨v61,w2,rfl,rfl,O4⟩⟩⟩
def Z6a (p0:Zt) (p1:Int):Option (Zt) :=
 opt (Z0s p1) fun y1 =>
 opt (Z3b p0 y1) fun y2 =>
 some y2
theorem Zi0 {W:World} {r:Zt} {p0:Zt} {p1:Int} {v0:Value} {M1:List Ze} {b:Nat} {T:TypeId} (h:Z6a p0 p1=some r) (h0:Sat W (b::M1.map (·.b)) (ck b T [.one (v0),.one (.int .i64 (p0.gfault))]::(M1 ++ [])) W) (O1:Z09 (El.int .u8) v0 M1 p0.gbytes) :
    Calls Tryz.prog 191 [.pointer (some ⟨b,0,none⟩),.int .u64 (p1)].toArray W (Z8e W (b::M1.map (·.b)) (fun v Ms=>∃ (uw:Value) (Mw:List Ze),v = .tuple #[]/\Ms = [.one (ck b T [.one (uw),.one (.int .i64 (r.gfault))]),.all Mw]/\Z09 (El.int .u8) uw Mw r.gbytes)):=by
 unfold Z6a at h
 refine Zs mo Z0m7 rfl h0 ?_
 refine oH h fun y1 f1 h=>oH h fun y2 f2 h=>Z1<|Z8 rfl<|Z8 rfl<|Zc (Zk rfl (fun w hw=>Z1x  f1 ) fun v3 o1 R1=>?_)
 obtain ⟨_,w1,rfl,rfl,O2⟩:=R1
 refine Zc (Z2z (mS:=_::M1) rfl (Zab (.app .here) (.app .here)) (fun w hw=>Z4f  f2 (Z7f hw (Zab (.app .here) (.app .here))) O1 ⟨(Z0b O2 .here) w hw,(Zn9 (Zco (E:=(El.int .u8)) O2 .here .here hw) (Ze6 (E:=(El.int .u8)) O2 .here .t1 hw))⟩) fun v9 o2 R2=>?_)
 obtain ⟨v11,w2,rfl,rfl,O3⟩:=R2
 refine Z2 ?_
 revert h; refine Z01 fun h=>?_
 subst h
 exact ⟨_,_,.nil,(.o (.all .here .nil)),⟨_,rfl,⟨v11,w2,rfl,rfl,O3⟩⟩⟩
def Z4a (p0:Zt) (p1:Bool):Option (Zt) :=
 br (p1) (
 opt (Z3b p0 ([1]:LI)) fun y1 =>
 some y1
 ) (
 opt (Z3b p0 ([0]:LI)) fun y2 =>
 some y2
 )
theorem Zh8 {W:World} {r:Zt} {p0:Zt} {p1:Bool} {v0:Value} {M1:List Ze} {b:Nat} {T:TypeId} (h:Z4a p0 p1=some r) (h0:Sat W (b::M1.map (·.b)) (ck b T [.one (v0),.one (.int .i64 (p0.gfault))]::(M1 ++ [])) W) (O1:Z09 (El.int .u8) v0 M1 p0.gbytes) :
    Calls Tryz.prog 316 [.pointer (some ⟨b,0,none⟩),.bool (p1)].toArray W (Z8e W (b::M1.map (·.b)) (fun v Ms=>∃ (uw:Value) (Mw:List Ze),v = .tuple #[]/\Ms = [.one (ck b T [.one (uw),.one (.int .i64 (r.gfault))]),.all Mw]/\Z09 (El.int .u8) uw Mw r.gbytes)):=by
 unfold Z4a at h
 refine Zs mo Z0o8 rfl h0 ?_
 refine Z0<|Z1<|Z8 rfl<|Z2<|Z0r h rfl (fun h=>?_) (fun h=>?_)
 ·refine oH h fun y1 f1 h=>Z1<|Z8 rfl<|Zc (Z54 (E:=(El.int .u8)) (xs:=[1]) (.one rfl rfl rfl BdR.nil) (.cons (p:=[.one (.int .u8 (1))]) rfl .nil) rfl fun v4 w1 O2=>Zc (Z2z (mS:=_::M1) rfl (Zab (.app .here) (.app .here)) (fun w hw=>Z4f  f1 (Z7f hw (Zab (.app .here) (.app .here))) O1 ⟨(Z0b O2 .here) w hw,(Zn9 (Zco (E:=(El.int .u8)) O2 .here .here hw) (Ze6 (E:=(El.int .u8)) O2 .here .t1 hw))⟩) fun v8 o1 R1=>?_))
  obtain ⟨v10,w2,rfl,rfl,O3⟩:=R1
  refine Z2 ?_
  revert h; refine Z01 fun h=>?_
  subst h
  exact ⟨_,_,.nil,(.o (.all .here .nil)),⟨_,rfl,⟨v10,w2,rfl,rfl,O3⟩⟩⟩
 ·refine oH h fun y2 f2 h=>Z1<|Z8 rfl<|Zc (Z54 (E:=(El.int .u8)) (xs:=[0]) (.one rfl rfl rfl BdR.nil) (.cons (p:=[.one (.int .u8 (0))]) rfl .nil) rfl fun v14 w3 O4=>Zc (Z2z (mS:=_::M1) rfl (Zab (.app .here) (.app .here)) (fun w hw=>Z4f  f2 (Z7f hw (Zab (.app .here) (.app .here))) O1 ⟨(Z0b O4 .here) w hw,(Zn9 (Zco (E:=(El.int .u8)) O4 .here .here hw) (Ze6 (E:=(El.int .u8)) O4 .here .t1 hw))⟩) fun v18 o2 R2=>?_))
  obtain ⟨v20,w4,rfl,rfl,O5⟩:=R2
  refine Z2 ?_
  revert h; refine Z01 fun h=>?_
  subst h
  exact ⟨_,_,.nil,(.o (.all .here .nil)),⟨_,rfl,⟨v20,w4,rfl,rfl,O5⟩⟩⟩
def Z4b (p0:Zt):Option ((LI)×Int×Zt) :=
 br ((p0.gfault != 0)) (
 some ([],p0.gfault,p0)
 ) (
 chk (decide ((([]:LI).length+p0.gbytes.length)*1<=140737488355328)) <|
 bnd (([]:LI)++p0.gbytes) fun l1 =>
 some (l1,0,p0)
 )
theorem Zh9 {W:World} {r:(LI)×Int×Zt} {p0:Zt} {v0:Value} {M1:List Ze} {b:Nat} {T:TypeId} (h:Z4b p0=some r) (h0:Sat W (b::M1.map (·.b)) (ck b T [.one (v0),.one (.int .i64 (p0.gfault))]::(M1 ++ [])) W) (O1:Z09 (El.int .u8) v0 M1 p0.gbytes) :
    Calls Tryz.prog 202 [.pointer (some ⟨b,0,none⟩)].toArray W (Z8e W (b::M1.map (·.b)) (fun v Ms=>∃ (u0:Value) (M1:List Ze) (uw:Value) (Mw:List Ze),v = .tuple #[u0,.int .i64 (r.2.1)]/\Ms = [.all M1,.one (ck b T [.one (uw),.one (.int .i64 (r.2.2.gfault))]),.all Mw]/\Z09 (El.int .u8) u0 M1 r.1/\Z09 (El.int .u8) uw Mw r.2.2.gbytes)):=by
 unfold Z4b at h
 refine Zs mo Z0mc rfl h0 ?_
 refine Z0<|Z1<|Z8 rfl<|Z8 rfl<|Z2<|Z0<|Z0<|Z1<|Z8 rfl<|Z4 _ (Z1l rfl)<|Z4 _ (Z1v rfl)<|Z4 _ (Z0p rfl .here rfl)<|Z4 _ (Zb rfl rfl rfl)<|Z2<|Z0r h rfl (fun h=>?_) (fun h=>?_)
 ·refine Z0<|Zv<|Z6 _ (Z04 rfl)<|Z6 _ (Z1l rfl)<|Z6 _ (Z1v rfl)<|Z6 _ (Z04 rfl)<|Zh _ (Z0p rfl .here rfl)<|Z6 _ (Z04 rfl)<|Zy<|Zf ?_
  revert h; refine Z01 fun h=>?_
  subst h
  exact ⟨_,_,(.cons (.tmp rfl) (.cons (.tmp rfl) .nil)),(.no (.o (.all .here .nil))),⟨_,rfl,⟨(.slice none 0 0),[],v0,M1,rfl,rfl,Zao,O1⟩⟩⟩
 ·refine Zn<|Z0<|cH h fun c1 h=>bH h fun l1 g1 h=>Z1<|Zc (Z54 (E:=(El.int .u8)) (xs:=[]) BdR.nil .nil rfl fun v6 w1 O2=>Z8 rfl<|Z4 _ (Z1l rfl)<|Z4 _ (Z1v rfl)<|Z4 _ (Z0p rfl (.app .here) rfl)<|Zc (Z9r (E:=(El.int .u8)) g1 rfl O2 .here rfl (Z0b O1 (.app .t1)) c1 fun v11 w2 O3=>Z8 rfl<|Z8 rfl<|Z2<|Zf ?_))
  revert h; refine Z01 fun h=>?_
  subst h
  exact ⟨_,_,(.cons (.tmp rfl) (.cons (.tmp rfl) .nil)),(.all .here (.o (.all .here .nil))),⟨_,rfl,⟨v11,w2,v0,M1,rfl,rfl,O3,O1⟩⟩⟩
def Zh7 (p0:Int):OL :=
 br (((decide (p0<1))||(decide (p0>255)))) (
 some []
 ) (
 bnd (wrap .u8 p0) fun z1 =>
 some ([70,66,1,z1]:LI)
 )
theorem Zn6 {W:World} {r:(LI)} {p0:Int} (h:Zh7 p0=some r)  :
    Calls Tryz.prog 201 [.int .i64 (p0)].toArray W (Z8e W [] (fun v Ms=>∃ (u0:Value) (M1:List Ze),v=u0/\Ms = [.all M1]/\Z09 (El.int .u8) u0 M1 r)):=by
 unfold Zh7 at h
 refine Zs mo Z0mb rfl (Zez _) ?_
 refine Z0<|Z1<|Z8 rfl<|Z2<|Z0<|Z0<|Z1<|Z8 rfl<|Z4 _ (Zb rfl rfl rfl)<|Z8 rfl<|Zex rfl rfl rfl (fun hg1=>Z27 rfl _ (Z04 rfl) (Z27 rfl _ (Zb rfl rfl rfl) (Z28))) (fun hg1=>rfl) rfl<|Z2<|Z0r h rfl (fun h=>?_) (fun h=>?_)
 ·refine Z0<|Z1<|Z8 rfl<|Z2<|Zf ?_
  revert h; refine Z01 fun h=>?_
  subst h
  exact ⟨_,_,(.cons (.tmp rfl) .nil),(.no .nil),⟨_,rfl,⟨(.slice none 0 0),[],rfl,rfl,Zao⟩⟩⟩
 ·refine Zn<|Z0<|bH h fun z1 e1 h=>Z1<|Z8 rfl<|Z4 _ (iz e1 (Z6x rfl))<|Zc (Z54 (E:=(El.int .u8)) (xs:=[70,66,1,z1]) (.one rfl rfl rfl (.one rfl rfl rfl (.one rfl rfl rfl (.one rfl rfl rfl BdR.nil)))) (.cons (p:=[.one (.int .u8 (70))]) rfl (.cons (p:=[.one (.int .u8 (66))]) rfl (.cons (p:=[.one (.int .u8 (1))]) rfl (.cons (p:=[.one (.int .u8 (z1))]) rfl .nil)))) rfl fun v7 w1 O1=>Z8 rfl<|Z2<|Zf ?_)
  revert h; refine Z01 fun h=>?_
  subst h
  exact ⟨_,_,(.cons (.tmp rfl) .nil),(.all .here .nil),⟨_,rfl,⟨v7,w1,rfl,rfl,O1⟩⟩⟩
structure Z0g where
  gstate:LI
  grest:LI
  glength:Int
def Zho:Option (Z0g) :=
 some (⟨G_first256,(replicate 64 0),0⟩:Z0g)
theorem Zmg {W:World} {r:Z0g} (h:Zho=some r) (hG:Globs W) :
    Calls Tryz.prog 39 [].toArray W (Z8e W [] (fun v Ms=>∃ (b1:Nat) (T0:TypeId),v = pt' b1/\Ms = [.one (ck b1 T0 [.ints .u32 8 (r.gstate),b6' r.grest,.one (.int .u64 (r.glength))])])):=by
 unfold Zho at h
 refine Zs mo ok39 rfl (Zez _) ?_
 refine Z0<|Z1<|Z8 rfl<|Z2<|Z0<|Z1<|Z4 _ (Zqh (o0:=0) (off:=0) rfl (hG.g0) (by simp) rfl)<|Z4 _ (Zcd (q:=[.ints .u32 8 (G_first256),b6' (replicate 64 0),.one (.int .u64 (0))]) (.agg rfl rfl rfl BdR.nil))<|Zc (Z06 (s:=[.ints .u32 8 (G_first256),b6' (replicate 64 0),.one (.int .u64 (0))]) rfl fun b2 u1=>Z8 rfl<|Z2<|Zf ?_)
 revert h; refine Z01 fun h=>?_
 subst h
 exact ⟨_,_,(.cons (.tmp rfl) .nil),(.o .nil),⟨_,rfl,⟨b2,183,rfl,rfl⟩⟩⟩
def Z5w (p0:LI) (p1:Int):Option ((Bool×LI)) :=
 opt (Z4m) fun y1 =>
 bnd (wrap .i64 (Int.tdiv y1 8)) fun z1 =>
 br (((decide (p1<0))||(decide (p1>wrap .i64 ((p0.length:Int)-z1))))) (
 some (true,[])
 ) (
 bnd (wrap .i64 (p1+z1)) fun z2 =>
 chk (Zki p1 z2 p0.length) <|
 chk (decide (0<((p0.drop (p1).toNat).take ((z2).toNat-(p1).toNat)).length)) <|
 some (false,((p0.drop (p1).toNat).take ((z2).toNat-(p1).toNat)))
 )
theorem Zfv {W:World} {r:(Bool×LI)} {p0:LI} {p1:Int} {v0:Value} (h:Z5w p0 p1=some r) (A0:Z6m (El.int .u8) W v0 p0) :
    Calls Tryz.prog 339 [v0,.int .i64 (p1)].toArray W (Z8e W [] (fun v Ms=>∃ (u0:Value),v=u0/\Ms = []/\Shp u0 (r.2).length/\Zt7 u0=r.1/\(∀ W,Z6m (El.int .u8) W v0 p0->Z6m (El.int .u8) W u0 r.2))):=by
 unfold Z5w at h
 refine Zs mo Z0os rfl (Zez _) ?_
 refine Z0<|Z1<|Z8 rfl<|Z2<|Z0<|oH h fun y1 f1 h=>bH h fun z1 e1 h=>Z1<|Z4 _ (Z1d rfl (Z76 f1))<|Z4 _ (iz e1 (Zov rfl rfl (by decide)))<|Z8 rfl<|Z2<|Z0<|Z0<|Z1<|Z8 rfl<|Z4 _ (Zb rfl rfl rfl)<|Z8 rfl<|Zex rfl rfl rfl (fun hg1=>Z27 rfl _ (Z04 rfl) (Z27 rfl _ (Z04 rfl) (Z27 rfl _ (Z5j rfl (Shp.rd A0)) (Z27 rfl _ (Z04 rfl) (Z27 rfl _ (iz rfl (Zb rfl rfl rfl)) (Z27 rfl _ (Zb rfl rfl rfl) (Z28))))))) (fun hg1=>rfl) rfl<|Z2<|Z0r h rfl (fun h=>?_) (fun h=>?_)
 ·refine Z0<|Z1<|Z8 rfl<|Z2<|Zf ?_
  revert h; refine Z01 fun h=>?_
  subst h
  exact ⟨_,_,(.cons (.tmp rfl) .nil),.nil,⟨_,rfl,⟨(.slice none 0 0),rfl,rfl,Shp.nil,rfl,Zub⟩⟩⟩
 ·refine Zn<|Z0<|bH h fun z2 e2 h=>cH h fun c1 h=>Z1<|Z8 rfl<|Z8 rfl<|Z8 rfl<|Z8 rfl<|Z4 _ (iz e2 (Zb rfl rfl rfl))<|Z4 _ (Ztn (lz:=p1) (hz:=z2) rfl (Shp.rd A0) (.yes rfl) (.yes rfl) c1)<|Z8 rfl<|Z2<|Zf<|cH h fun c2 h=>?_
  revert h; refine Z01 fun h=>?_
  subst h
  exact ⟨_,_,(.cons (.tmp rfl) .nil),.nil,⟨_,rfl,⟨(Zed 1 v0 (p1).toNat (z2).toNat),rfl,rfl,(Shp.cut (Shp.rd A0) (lz:=p1) (hz:=z2) c1),(Shp.notnil (Shp.cut (Shp.rd A0) (lz:=p1) (hz:=z2) c1) c2),(fun W A0=>(Z078 A0 (lz:=p1) (hz:=z2) c1))⟩⟩⟩
def Z7g (y1:(Bool×LI)) (k1:Int->Option (Int×Bool)) (k2:Int->Int->Option (Int×Bool)) (i1:Int) (i2:Int):Option (Int×Bool) :=
 br ((decide (i2<(y1.2.length:Int)))) (
 chk (inB i2 y1.2.length) <|
 bnd (y1.2.getD (i2).toNat 0) fun z1 =>
 bnd (Z02 .u32 i1 8) fun z2 =>
 bnd (wrap .u32 z1) fun z3 =>
 bnd (Z7 .or .u32 z2 z3) fun z4 =>
 bnd (wrap .i64 (i2+1)) fun z5 =>
 k2 z4 z5
 ) (
 k1 i1
 )
def Z2v (y1:(Bool×LI)) (k1:Int->Option (Int×Bool)):Nat->Int->Int->Option (Int×Bool)
  | 0,_,_=>none
  | n+1,i1,i2=>Z7g y1 k1 (Z2v y1 k1 n) i1 i2
def Z5c (p0:LI) (p1:Int):Option (Int×Bool) :=
 opt (Z5w p0 p1) fun y1 =>
 jn (fun (i1:Int)=>some (i1,(!y1.1))) fun k1=>Z2v y1 k1 big 0 0
theorem Zf1 {W:World} {r:Int×Bool} {p0:LI} {p1:Int} {v0:Value} (h:Z5c p0 p1=some r) (A0:Z6m (El.int .u8) W v0 p0) :
    Calls Tryz.prog 291 [v0,.int .i64 (p1)].toArray W (Z3c W (.tuple #[.int .u32 (r.1),.bool (r.2)])):=by
 unfold Z5c at h
 refine Za mo Z0nu rfl ?_
 refine Z0<|Z1<|Z8 rfl<|Z8 rfl<|Z2<|Z0<|Z1<|Z8 rfl<|Z2<|Z0<|oH h fun y1 f1 h=>Z1<|Z8 rfl<|Z8 rfl<|Zc (Zk rfl (fun w hw=>Zfv  f1 ((Z1m A0 Z1u) w hw)) fun v5 o1 R1=>?_)
 obtain ⟨_,rfl,rfl,P10,N8,H9⟩:=R1
 refine Z8 rfl<|Z2<|Z0<|Z0<|Z1<|Z8 rfl<|Z4 _ (Z5j rfl P10)<|Z8 rfl<|Z2<|jH h fun k1 q1 h=>Zo (G:=fun t m=>∃ (i1:Int),k1 i1=some r/\Fit [(6,.int .u32 (i1)),(7,v5)] [] t m) ?_ ?_
 ·refine Zd<|Z07 (fun n1 t m=>∃ (i2:Int) (i3:Int),Z2v y1 k1 n1 i2 i3=some r/\Fit [(6,.int .u32 (i2)),(7,v5),(13,v5),(14,.int .i64 ((y1.2.length:Int))),(15,.int .i64 (i3))] [] t m) big ?_ ?_
  ·exact ⟨0,0,h,⟨⟨rfl,rfl,rfl,rfl,rfl,trivial⟩,.nil⟩⟩
  ·rintro n1 t m ⟨i2,i3,h,hF⟩
   refine Zm hF ?_
   clear hF
   rcases n1 with _ | n1
   · exact Z1r h
   have h:Z7g y1 k1 (Z2v y1 k1 n1) i2 i3=some r:=h
   unfold Z7g at h
   obtain ⟨k2,q2⟩ : ∃ k,k=Z2v y1 k1 n1:=⟨_,rfl⟩
   try rw [<- q2] at h
   refine Z0<|Z1<|Z4 _ (Zb rfl rfl rfl)<|Z2<|Z0<|Z0r h rfl (fun h=>?_) (fun h=>?_)
   ·refine Zn<|Z0<|Zd<|Z0<|cH h fun c1 h=>bH h fun z1 e1 h=>Z1<|Z4 _ (Z7u rfl rfl P10 c1)<|Z4 _ (iz e1 (Zaq (E:=(El.int .u8)) (s:=[.one (.int .u8 (y1.2.getD (i3).toNat 0))]) rfl (Zs7 H9 (Z1m A0 Z1u)) (Z1i c1) rfl rfl))<|Z8 rfl<|Z2<|bH h fun z2 e2 h=>bH h fun z3 e3 h=>bH h fun z4 e4 h=>Z1<|Z8 rfl<|Z4 _ (iz e2 (Zm6 rfl rfl (by decide)))<|Z8 rfl<|Z4 _ (iz e3 (Z6x rfl))<|Z4 _ (iz e4 (Zb rfl rfl rfl))<|Z8 rfl<|Z2<|bH h fun z5 e5 h=>Z1<|Z4 _ (iz e5 (Zb rfl rfl rfl))<|Z8 rfl<|Z2 ?_
    rw [q2] at h
    exact ⟨n1,Nat.lt_succ_self _,z4,z5,h,⟨⟨rfl,rfl,rfl,rfl,rfl,trivial⟩,.nil⟩⟩
   ·exact Z0l _ rfl<|⟨i2,h,⟨⟨rfl,rfl,trivial⟩,.nil⟩⟩
 ·rintro t m ⟨i1,h,hF⟩
  refine Zm hF ?_
  clear hF
  subst q1
  refine Z0<|Z1<|Z8 rfl<|Z8 rfl<|Z4 _ (Zyg rfl P10 N8)<|Z8 rfl<|Z8 rfl<|Z2<|Zf ?_
  revert h; refine Z01 fun h=>?_
  subst h
  exact ⟨_,(.cons (.tmp rfl) (.cons (.tmp rfl) .nil)),rfl⟩
def Z47 (p0:Int) (p1:Int):Option Int :=
 opt (Z4m) fun y1 =>
 bnd (wrap .u64 p1) fun z1 =>
 bnd (wrap .i64 (y1-1)) fun z2 =>
 bnd (wrap .u64 z2) fun z3 =>
 bnd (Z7 .and .u64 z1 z3) fun z4 =>
 chk (decide (0<=z4)) <|
 bnd (Zr .u32 p0 z4) fun z5 =>
 bnd (wrap .u64 y1) fun z6 =>
 bnd (wrap .u64 (z6-z4)) fun z7 =>
 chk (decide (0<=z7)) <|
 bnd (Z02 .u32 p0 z7) fun z8 =>
 bnd (Z7 .or .u32 z5 z8) fun z9 =>
 some z9
theorem Z3t {W:World} {r:Int} {p0:Int} {p1:Int} (h:Z47 p0 p1=some r)  :
    Calls Tryz.prog 293 [.int .u32 (p0),.int .i64 (p1)].toArray W (Z3c W (.int .u32 (r))):=by
 unfold Z47 at h
 refine Za mo Z0nw rfl ?_
 refine Z0<|Z1<|Z8 rfl<|Z2<|Z0<|oH h fun y1 f1 h=>Z1<|Z4 _ (Z1d rfl (Z76 f1))<|Z8 rfl<|Z2<|Z0<|bH h fun z1 e1 h=>bH h fun z2 e2 h=>bH h fun z3 e3 h=>bH h fun z4 e4 h=>Z1<|Z8 rfl<|Z4 _ (iz e1 (Z6x rfl))<|Z8 rfl<|Z4 _ (iz e2 (Zb rfl rfl rfl))<|Z4 _ (iz e3 (Z6x rfl))<|Z4 _ (iz e4 (Zb rfl rfl rfl))<|Z8 rfl<|Z2<|Z0<|cH h fun c1 h=>bH h fun z5 e5 h=>bH h fun z6 e6 h=>bH h fun z7 e7 h=>cH h fun c2 h=>bH h fun z8 e8 h=>bH h fun z9 e9 h=>Z1<|Z8 rfl<|Z8 rfl<|Z4 _ (iz e5 (Z8w rfl rfl (of_decide_eq_true c1)))<|Z8 rfl<|Z8 rfl<|Z4 _ (iz e6 (Z6x rfl))<|Z8 rfl<|Z4 _ (iz e7 (Zb rfl rfl rfl))<|Z4 _ (iz e8 (Zm6 rfl rfl (of_decide_eq_true c2)))<|Z4 _ (iz e9 (Zb rfl rfl rfl))<|Z8 rfl<|Z2<|Zf ?_
 revert h; refine Z01 fun h=>?_
 subst h
 exact ⟨_,(.cons (.tmp rfl) .nil),rfl⟩
def Zch (p0:Int) (p1:Int) (p2:Int) (p3:Int):Option Int :=
 opt (Z47 p0 p1) fun y1 =>
 opt (Z47 p0 p2) fun y2 =>
 bnd (Z7 .xor .u32 y1 y2) fun z1 =>
 chk (decide (0<=p3)) <|
 bnd (Zr .u32 p0 p3) fun z2 =>
 bnd (Z7 .xor .u32 z1 z2) fun z3 =>
 some z3
theorem Zh1 {W:World} {r:Int} {p0:Int} {p1:Int} {p2:Int} {p3:Int} (h:Zch p0 p1 p2 p3=some r)  :
    Calls Tryz.prog 292 [.int .u32 (p0),.int .i64 (p1),.int .i64 (p2),.int .i64 (p3)].toArray W (Z3c W (.int .u32 (r))):=by
 unfold Zch at h
 refine Za mo Z0nv rfl ?_
 refine Z0<|Z1<|Z8 rfl<|Z2<|Z0<|oH h fun y1 f1 h=>oH h fun y2 f2 h=>bH h fun z1 e1 h=>cH h fun c1 h=>bH h fun z2 e2 h=>bH h fun z3 e3 h=>Zv<|Z6 _ (Z04 rfl)<|Z6 _ (Z04 rfl)<|Z6 _ (Z1d rfl (Z3t f1))<|Z6 _ (Z04 rfl)<|Z6 _ (Z04 rfl)<|Z6 _ (Z1d rfl (Z3t f2))<|Z6 _ (iz e1 (Zb rfl rfl rfl))<|Z6 _ (Z04 rfl)<|Z6 _ (Z04 rfl)<|Z6 _ (iz e2 (Z8w rfl rfl (of_decide_eq_true c1)))<|Z6 _ (iz e3 (Zb rfl rfl rfl))<|Z6 _ (Z04 rfl)<|Zy<|Zf ?_
 revert h; refine Z01 fun h=>?_
 subst h
 exact ⟨_,(.cons (.tmp rfl) .nil),rfl⟩
def Z38 (p0:LI) (k1:(LI)->OL) (k2:Int->(LI)->OL) (i1:Int) (a1:LI):OL :=
 br ((decide (i1<64))) (
 jn (fun (a2:LI)=>bnd (wrap .i64 (i1+1)) fun z1 =>
 k2 z1 a2) fun k3=>br ((decide (i1<16))) (
 bnd (wrap .i64 (4*i1)) fun z2 =>
 opt (Z5c (tk p0 0 64) z2) fun y1 =>
 chk (inB i1 64) <|
 bnd (Z3z a1 (i1).toNat y1.1) fun l1 =>
 k3 l1
 ) (
 bnd (wrap .i64 (i1-2)) fun z3 =>
 chk (inB z3 64) <|
 bnd (wrap .i64 (i1-7)) fun z4 =>
 chk (inB z4 64) <|
 bnd (wrap .i64 (i1-15)) fun z5 =>
 chk (inB z5 64) <|
 bnd (wrap .i64 (i1-16)) fun z6 =>
 chk (inB z6 64) <|
 bnd (a1.getD (z3).toNat 0) fun z7 =>
 opt (Zch z7 17 19 10) fun y2 =>
 bnd (a1.getD (z4).toNat 0) fun z8 =>
 bnd (wrap .u32 (y2+z8)) fun z9 =>
 bnd (a1.getD (z5).toNat 0) fun z10 =>
 opt (Zch z10 7 18 3) fun y3 =>
 bnd (wrap .u32 (z9+y3)) fun z11 =>
 bnd (a1.getD (z6).toNat 0) fun z12 =>
 bnd (wrap .u32 (z11+z12)) fun z13 =>
 chk (inB i1 64) <|
 bnd (Z3z a1 (i1).toNat z13) fun l2 =>
 k3 l2
 )
 ) (
 k1 a1
 )
def Z39 (p0:LI) (k1:(LI)->OL):Nat->Int->(LI)->OL
  | 0,_,_=>none
  | n+1,i1,a1=>Z38 p0 k1 (Z39 p0 k1 n) i1 a1
def Z83 (p0:LI):OL :=
 jn (fun (a1:LI)=>some a1) fun k1=>Z39 p0 k1 big 0 (replicate 64 0)
theorem Zhx {W:World} {r:(LI)} {p0:LI} (h:Z83 p0=some r)  :
    Calls Tryz.prog 181 [agg [b6' p0]].toArray W (Z3c W (agg [.ints .u32 64 (r)])):=by
 unfold Z83 at h
 refine Za mo Z0m2 rfl ?_
 refine Z0<|Z1<|Zc (Z06 (s:=[b6' p0]) rfl fun b1 u1=>Zc (Zu fun b2 u2=>Z2<|Z0<|Z1<|Zc (Zu fun b3 u3=>Z2<|Z0<|Z0<|Z1<|Z8 rfl<|Z2<|jH h fun k1 q1 h=>Zo (G:=fun t m=>∃ (a1:LI),k1 a1=some r/\Fit [(2,pt' b2),(3,pt' b3)] (ck b3 307 [.ints .u32 64 (a1)]::(ck b2 307 [.ints .u32 64 ((replicate 64 0))]::(ck b1 26 [b6' p0] :: []))) t m) ?_ ?_)))
 ·refine Zd<|Z07 (fun n1 t m=>∃ (i1:Int) (a2:LI),Z39 p0 k1 n1 i1 a2=some r/\Fit [(1,pt' b1),(2,pt' b2),(3,pt' b3),(5,.int .i64 (i1))] (ck b3 307 [.ints .u32 64 (a2)]::(ck b2 307 [.ints .u32 64 ((replicate 64 0))]::(ck b1 26 [b6' p0] :: []))) t m) big ?_ ?_
  ·exact ⟨0,(replicate 64 0),h,⟨⟨rfl,rfl,rfl,rfl,trivial⟩,(.o (.o (.o .nil)))⟩⟩
  ·rintro n1 t m ⟨i1,a2,h,hF⟩
   refine Zm hF ?_
   clear hF
   rcases n1 with _ | n1
   · exact Z1r h
   have h:Z38 p0 k1 (Z39 p0 k1 n1) i1 a2=some r:=h
   unfold Z38 at h
   obtain ⟨k2,q2⟩ : ∃ k,k=Z39 p0 k1 n1:=⟨_,rfl⟩
   try rw [<- q2] at h
   refine Z0<|Z1<|Z4 _ (Zb rfl rfl rfl)<|Z2<|Z0<|Z0r h rfl (fun h=>?_) (fun h=>?_)
   ·refine Zn<|Z0<|jH h fun k3 q3 h=>Zo (G:=fun t m=>∃ (a3:LI),k3 a3=some r/\Fit [(1,pt' b1),(2,pt' b2),(3,pt' b3),(5,.int .i64 (i1))] (ck b3 307 [.ints .u32 64 (a3)]::(ck b2 307 [.ints .u32 64 ((replicate 64 0))]::(ck b1 26 [b6' p0] :: []))) t m) ?_ ?_
    ·refine Zd<|Z0<|Z1<|Z8 rfl<|Z8 rfl<|Z2<|Z0<|Z0<|Z1<|Z8 rfl<|Z4 _ (Zb rfl rfl rfl)<|Z2<|Z0r h rfl (fun h=>?_) (fun h=>?_)
     ·exact Z0<|bH h fun z1 e1 h=>oH h fun y1 f1 h=>cH h fun c1 h=>bH h fun l1 g1 h=>Z1<|Z8 rfl<|Z4 _ (Z88 rfl .no .no .no (by simp) (by decide))<|Z8 rfl<|Z4 _ (iz e1 (Zb rfl rfl rfl))<|Z4 _ (Z0a rfl (fun w hw=>Zf1 f1 ((Z1t (s:=[b6' p0]) (N:=64) (k:=.u8) (base:=0) (lo:=0) (hi:=64) (mz:=64) .t2 rfl (by decide)) w hw)))<|Z8 rfl<|Z4 _ (Z17 rfl rfl)<|Z4 _ (Z17 rfl rfl)<|Z4 _ (Z3f rfl rfl (Z1w c1))<|Zc (Z5x (q:=[.ints .u32 64 (l1)]) (base:=0) g1 rfl rfl rfl (Z1i c1) rfl .here<|Z2<|Z0l _ rfl<|⟨l1,h,⟨⟨rfl,rfl,rfl,rfl,trivial⟩,(.o (.o (.o .nil)))⟩⟩)
     ·exact Zn<|bH h fun z2 e2 h=>cH h fun c2 h=>bH h fun z3 e3 h=>cH h fun c3 h=>bH h fun z4 e4 h=>cH h fun c4 h=>bH h fun z5 e5 h=>cH h fun c5 h=>bH h fun z6 e6 h=>oH h fun y2 f2 h=>bH h fun z7 e7 h=>bH h fun z8 e8 h=>bH h fun z9 e9 h=>oH h fun y3 f3 h=>bH h fun z10 e10 h=>bH h fun z11 e11 h=>bH h fun z12 e12 h=>cH h fun c6 h=>bH h fun l2 g2 h=>Zv<|Z6 _ (Z04 rfl)<|Z6 _ (Z04 rfl)<|Z6 _ (iz e2 (Zb rfl rfl rfl))<|Z6 _ (Z3f rfl rfl (Z1w c2))<|Z6 _ (Z04 rfl)<|Z6 _ (iz e3 (Zb rfl rfl rfl))<|Z6 _ (Z3f rfl rfl (Z1w c3))<|Z6 _ (Z04 rfl)<|Z6 _ (iz e4 (Zb rfl rfl rfl))<|Z6 _ (Z3f rfl rfl (Z1w c4))<|Z6 _ (Z04 rfl)<|Z6 _ (iz e5 (Zb rfl rfl rfl))<|Z6 _ (Z3f rfl rfl (Z1w c5))<|Zh _ (iz e6 (Z9f (base:=0) rfl .here rfl (Z1i c2)))<|Z6 _ (Z1d rfl (Zh1 f2))<|Zh _ (iz e7 (Z9f (base:=0) rfl .here rfl (Z1i c3)))<|Z6 _ (iz e8 (Zb rfl rfl rfl))<|Zh _ (iz e9 (Z9f (base:=0) rfl .here rfl (Z1i c4)))<|Z6 _ (Z1d rfl (Zh1 f3))<|Z6 _ (iz e10 (Zb rfl rfl rfl))<|Zh _ (iz e11 (Z9f (base:=0) rfl .here rfl (Z1i c5)))<|Z6 _ (iz e12 (Zb rfl rfl rfl))<|Z6 _ (Z3f rfl rfl (Z1w c6))<|Z1q rfl (Z5x (q:=[.ints .u32 64 (l2)]) (base:=0) g2 rfl rfl rfl (Z1i c6) rfl .here<|Zy<|⟨l2,h,⟨⟨rfl,rfl,rfl,rfl,trivial⟩,(.o (.o (.o .nil)))⟩⟩)
    ·rintro t m ⟨a3,h,hF⟩
     refine Zm hF ?_
     clear hF
     subst q3
     refine bH h fun z13 e13 h=>Z1<|Z4 _ (iz e13 (Zb rfl rfl rfl))<|Z8 rfl<|Z2 ?_
     rw [q2] at h
     exact ⟨n1,Nat.lt_succ_self _,z13,a3,h,⟨⟨rfl,rfl,rfl,rfl,trivial⟩,(.o (.o (.o .nil)))⟩⟩
   ·exact Z0l _ rfl<|⟨a2,h,⟨⟨rfl,rfl,trivial⟩,(.o (.o (.o .nil)))⟩⟩
 ·rintro t m ⟨a1,h,hF⟩
  refine Zm hF ?_
  clear hF
  subst q1
  refine Z0<|Z1<|Z4 _ (Z00 (p:=[.ints .u32 64 (a1)]) rfl .here rfl)<|Zc (Zl (q:=[.ints .u32 64 (a1)]) rfl rfl rfl rfl rfl .t1<|Z2<|Zf ?_)
  revert h; refine Z01 fun h=>?_
  subst h
  exact ⟨_,(.cons (.agg rfl .t1 rfl) .nil),rfl⟩
def Z9d (p0:Int) (p1:Int) (p2:Int) (p3:Int):Option Int :=
 opt (Z47 p0 p1) fun y1 =>
 opt (Z47 p0 p2) fun y2 =>
 bnd (Z7 .xor .u32 y1 y2) fun z1 =>
 opt (Z47 p0 p3) fun y3 =>
 bnd (Z7 .xor .u32 z1 y3) fun z2 =>
 some z2
theorem Zeu {W:World} {r:Int} {p0:Int} {p1:Int} {p2:Int} {p3:Int} (h:Z9d p0 p1 p2 p3=some r)  :
    Calls Tryz.prog 182 [.int .u32 (p0),.int .i64 (p1),.int .i64 (p2),.int .i64 (p3)].toArray W (Z3c W (.int .u32 (r))):=by
 unfold Z9d at h
 refine Za mo Z0m3 rfl ?_
 refine Z0<|Z1<|Z8 rfl<|Z2<|Z0<|oH h fun y1 f1 h=>oH h fun y2 f2 h=>bH h fun z1 e1 h=>oH h fun y3 f3 h=>bH h fun z2 e2 h=>Z1<|Z8 rfl<|Z8 rfl<|Z4 _ (Z1d rfl (Z3t f1))<|Z8 rfl<|Z8 rfl<|Z4 _ (Z1d rfl (Z3t f2))<|Z4 _ (iz e1 (Zb rfl rfl rfl))<|Z8 rfl<|Z8 rfl<|Z4 _ (Z1d rfl (Z3t f3))<|Z4 _ (iz e2 (Zb rfl rfl rfl))<|Z8 rfl<|Z2<|Zf ?_
 revert h; refine Z01 fun h=>?_
 subst h
 exact ⟨_,(.cons (.tmp rfl) .nil),rfl⟩
def Z4x (y1:(LI)) (k1:Int->Int->Int->Int->Int->Int->Int->Int->OL) (k2:Int->Int->Int->Int->Int->Int->Int->Int->Int->OL) (i1:Int) (i2:Int) (i3:Int) (i4:Int) (i5:Int) (i6:Int) (i7:Int) (i8:Int) (i9:Int):OL :=
 br ((decide (i9<64))) (
 chk (inB i9 64) <|
 bnd (y1.getD (i9).toNat 0) fun z1 =>
 opt (Z9d i5 6 11 25) fun y2 =>
 bnd (wrap .u32 (i8+y2)) fun z2 =>
 bnd (Z7 .and .u32 i5 i6) fun z3 =>
 bnd (Z7 .xor .u32 4294967295 i5) fun z4 =>
 bnd (Z7 .and .u32 z4 i7) fun z5 =>
 bnd (Z7 .xor .u32 z3 z5) fun z6 =>
 bnd (wrap .u32 (z2+z6)) fun z7 =>
 chk (inB i9 64) <|
 bnd (G_table256.getD (i9).toNat 0) fun z8 =>
 bnd (wrap .u32 (z7+z8)) fun z9 =>
 bnd (wrap .u32 (z9+z1)) fun z10 =>
 opt (Z9d i1 2 13 22) fun y3 =>
 bnd (Z7 .and .u32 i1 i2) fun z11 =>
 bnd (Z7 .and .u32 i1 i3) fun z12 =>
 bnd (Z7 .xor .u32 z11 z12) fun z13 =>
 bnd (Z7 .and .u32 i2 i3) fun z14 =>
 bnd (Z7 .xor .u32 z13 z14) fun z15 =>
 bnd (wrap .u32 (y3+z15)) fun z16 =>
 bnd (wrap .u32 (z10+z16)) fun z17 =>
 bnd (wrap .u32 (i4+z10)) fun z18 =>
 bnd (wrap .i64 (i9+1)) fun z19 =>
 k2 z17 i1 i2 i3 z18 i5 i6 i7 z19
 ) (
 k1 i1 i2 i3 i4 i5 i6 i7 i8
 )
def Z3y (y1:(LI)) (k1:Int->Int->Int->Int->Int->Int->Int->Int->OL):Nat->Int->Int->Int->Int->Int->Int->Int->Int->Int->OL
  | 0,_,_,_,_,_,_,_,_,_=>none
  | n+1,i1,i2,i3,i4,i5,i6,i7,i8,i9=>Z4x y1 k1 (Z3y y1 k1 n) i1 i2 i3 i4 i5 i6 i7 i8 i9
def Zd3 (z1:LI) (k1:(LI)->OL) (k2:Int->(LI)->OL) (i1:Int) (a1:LI):OL :=
 br ((decide (i1<8))) (
 chk (inB i1 8) <|
 bnd (z1.getD (i1).toNat 0) fun z2 =>
 chk (inB i1 8) <|
 bnd (a1.getD (i1).toNat 0) fun z3 =>
 bnd (wrap .u32 (z3+z2)) fun z4 =>
 chk (inB i1 8) <|
 bnd (Z3z a1 (i1).toNat z4) fun l1 =>
 bnd (wrap .i64 (i1+1)) fun z5 =>
 k2 z5 l1
 ) (
 k1 a1
 )
def Z66 (z1:LI) (k1:(LI)->OL):Nat->Int->(LI)->OL
  | 0,_,_=>none
  | n+1,i1,a1=>Zd3 z1 k1 (Z66 z1 k1 n) i1 a1
def Zbs (p0:LI) (p1:LI):OL :=
 bnd (p0.getD 0 0) fun z1 =>
 bnd (p0.getD 1 0) fun z2 =>
 bnd (p0.getD 2 0) fun z3 =>
 bnd (p0.getD 3 0) fun z4 =>
 bnd (p0.getD 4 0) fun z5 =>
 bnd (p0.getD 5 0) fun z6 =>
 bnd (p0.getD 6 0) fun z7 =>
 bnd (p0.getD 7 0) fun z8 =>
 opt (Z83 p1) fun y1 =>
 jn (fun (i1:Int) (i2:Int) (i3:Int) (i4:Int) (i5:Int) (i6:Int) (i7:Int) (i8:Int)=>bnd (([i1,i2,i3,i4,i5,i6,i7,i8]:LI)) fun z9 =>
 jn (fun (a1:LI)=>some a1) fun k1=>Z66 z9 k1 big 0 p0) fun k2=>Z3y y1 k2 big z1 z2 z3 z4 z5 z6 z7 z8 0
theorem Zkb {W:World} {r:(LI)} {p0:LI} {p1:LI} (h:Zbs p0 p1=some r) (hG:Globs W) :
    Calls Tryz.prog 85 [agg [.ints .u32 8 (p0)],agg [b6' p1]].toArray W (Z3c W (agg [.ints .u32 8 (r)])):=by
 unfold Zbs at h
 refine Za mo ok85 rfl ?_
 refine Z0<|Z1<|Zc (Z06 (s:=[.ints .u32 8 (p0)]) rfl fun b1 u1=>Zc (Z06 (s:=[b6' p1]) rfl fun b2 u2=>Zc (Zu fun b3 u3=>Z2<|Z0<|bH h fun z1 e1 h=>bH h fun z2 e2 h=>bH h fun z3 e3 h=>bH h fun z4 e4 h=>bH h fun z5 e5 h=>bH h fun z6 e6 h=>bH h fun z7 e7 h=>bH h fun z8 e8 h=>Zv<|Z6 _ (Z3f rfl rfl (by decide))<|Z6 _ (Z3f rfl rfl (by decide))<|Z6 _ (Z3f rfl rfl (by decide))<|Z6 _ (Z3f rfl rfl (by decide))<|Z6 _ (Z3f rfl rfl (by decide))<|Z6 _ (Z3f rfl rfl (by decide))<|Z6 _ (Z3f rfl rfl (by decide))<|Z6 _ (Z3f rfl rfl (by decide))<|Zh _ (iz e1 (Z0p rfl .t2 rfl))<|Z6 _ (Z04 rfl)<|Zh _ (iz e2 (Z0p rfl .t2 rfl))<|Z6 _ (Z04 rfl)<|Zh _ (iz e3 (Z0p rfl .t2 rfl))<|Z6 _ (Z04 rfl)<|Zh _ (iz e4 (Z0p rfl .t2 rfl))<|Z6 _ (Z04 rfl)<|Zh _ (iz e5 (Z0p rfl .t2 rfl))<|Z6 _ (Z04 rfl)<|Zh _ (iz e6 (Z0p rfl .t2 rfl))<|Z6 _ (Z04 rfl)<|Zh _ (iz e7 (Z0p rfl .t2 rfl))<|Z6 _ (Z04 rfl)<|Zh _ (iz e8 (Z0p rfl .t2 rfl))<|Z6 _ (Z04 rfl)<|Zy<|Z0<|Z0<|oH h fun y1 f1 h=>Z1<|Z4 _ (Z00 (p:=[b6' p1]) rfl .t1 rfl)<|Z4 _ (Z1d rfl (Zhx f1))<|Z8 rfl<|Z2<|jH h fun k1 q1 h=>Zo (G:=fun t m=>∃ (i1:Int) (i2:Int) (i3:Int) (i4:Int) (i5:Int) (i6:Int) (i7:Int) (i8:Int),k1 i1 i2 i3 i4 i5 i6 i7 i8=some r/\Fit [(2,pt' b1),(4,pt' b3),(5,.int .u32 (i1)),(6,.int .u32 (i2)),(7,.int .u32 (i3)),(8,.int .u32 (i4)),(9,.int .u32 (i5)),(10,.int .u32 (i6)),(11,.int .u32 (i7)),(12,.int .u32 (i8))] (ck b3 181 [.ints .u32 8 ((replicate 8 0))]::(ck b2 26 [b6' p1]::(ck b1 181 [.ints .u32 8 (p0)] :: []))) t m) ?_ ?_)))
 ·refine Zd<|Z07 (fun n1 t m=>∃ (i9:Int) (i10:Int) (i11:Int) (i12:Int) (i13:Int) (i14:Int) (i15:Int) (i16:Int) (i17:Int),Z3y y1 k1 n1 i9 i10 i11 i12 i13 i14 i15 i16 i17=some r/\Fit [(2,pt' b1),(4,pt' b3),(5,.int .u32 (i9)),(6,.int .u32 (i10)),(7,.int .u32 (i11)),(8,.int .u32 (i12)),(9,.int .u32 (i13)),(10,.int .u32 (i14)),(11,.int .u32 (i15)),(12,.int .u32 (i16)),(36,agg [.ints .u32 64 (y1)]),(37,.int .i64 (i17))] (ck b3 181 [.ints .u32 8 ((replicate 8 0))]::(ck b2 26 [b6' p1]::(ck b1 181 [.ints .u32 8 (p0)] :: []))) t m) big ?_ ?_
  ·exact ⟨z1,z2,z3,z4,z5,z6,z7,z8,0,h,⟨⟨rfl,rfl,rfl,rfl,rfl,rfl,rfl,rfl,rfl,rfl,rfl,rfl,trivial⟩,(.o (.o (.o .nil)))⟩⟩
  ·rintro n1 t m ⟨i9,i10,i11,i12,i13,i14,i15,i16,i17,h,hF⟩
   refine Zm hF ?_
   clear hF
   rcases n1 with _ | n1
   · exact Z1r h
   have h:Z4x y1 k1 (Z3y y1 k1 n1) i9 i10 i11 i12 i13 i14 i15 i16 i17=some r:=h
   unfold Z4x at h
   obtain ⟨k2,q2⟩ : ∃ k,k=Z3y y1 k1 n1:=⟨_,rfl⟩
   try rw [<- q2] at h
   refine Z0<|Z1<|Z4 _ (Zb rfl rfl rfl)<|Z2<|Z0<|Z0r h rfl (fun h=>?_) (fun h=>?_)
   ·refine Zn<|Z0<|Zd<|Z0<|cH h fun c1 h=>bH h fun z9 e9 h=>Z1<|Z8 rfl<|Z4 _ (iz e9 (Zgs (len:=64) rfl rfl (Z1w c1)))<|Z8 rfl<|Z8 rfl<|Z2<|Z0<|oH h fun y2 f2 h=>bH h fun z10 e10 h=>bH h fun z11 e11 h=>bH h fun z12 e12 h=>bH h fun z13 e13 h=>bH h fun z14 e14 h=>bH h fun z15 e15 h=>cH h fun c2 h=>bH h fun z16 e16 h=>bH h fun z17 e17 h=>bH h fun z18 e18 h=>Zv<|Z6 _ (Z04 rfl)<|Z6 _ (Z04 rfl)<|Z6 _ (Z1d rfl (Zeu f2))<|Z6 _ (iz e10 (Zb rfl rfl rfl))<|Z6 _ (Z04 rfl)<|Z6 _ (Z04 rfl)<|Z6 _ (iz e11 (Zb rfl rfl rfl))<|Z6 _ (Z04 rfl)<|Z6 _ (iz e12 (Zmv rfl rfl))<|Z6 _ (Z04 rfl)<|Z6 _ (iz e13 (Zb rfl rfl rfl))<|Z6 _ (iz e14 (Zb rfl rfl rfl))<|Z6 _ (iz e15 (Zb rfl rfl rfl))<|Z6 _ (Z04 rfl)<|Z6 _ (Z3f rfl rfl (Z1w c2))<|Z6 _ (Z04 rfl)<|Zh _ (iz e16 (Zyi rfl (hG.g1) (by simp) (Z1i c2)))<|Z6 _ (iz e17 (Zb rfl rfl rfl))<|Z6 _ (iz e18 (Zb rfl rfl rfl))<|Z6 _ (Z04 rfl)<|Zy<|Z0<|oH h fun y3 f3 h=>bH h fun z19 e19 h=>bH h fun z20 e20 h=>bH h fun z21 e21 h=>bH h fun z22 e22 h=>bH h fun z23 e23 h=>bH h fun z24 e24 h=>Z1<|Z8 rfl<|Z4 _ (Z1d rfl (Zeu f3))<|Z8 rfl<|Z8 rfl<|Z4 _ (iz e19 (Zb rfl rfl rfl))<|Z8 rfl<|Z8 rfl<|Z4 _ (iz e20 (Zb rfl rfl rfl))<|Z4 _ (iz e21 (Zb rfl rfl rfl))<|Z8 rfl<|Z8 rfl<|Z4 _ (iz e22 (Zb rfl rfl rfl))<|Z4 _ (iz e23 (Zb rfl rfl rfl))<|Z4 _ (iz e24 (Zb rfl rfl rfl))<|Z8 rfl<|Z2<|bH h fun z25 e25 h=>bH h fun z26 e26 h=>Z1<|Z8 rfl<|Z8 rfl<|Z4 _ (iz e25 (Zb rfl rfl rfl))<|Z8 rfl<|Z8 rfl<|Z8 rfl<|Z8 rfl<|Z8 rfl<|Z4 _ (iz e26 (Zb rfl rfl rfl))<|Z8 rfl<|Z8 rfl<|Z8 rfl<|Z8 rfl<|Z8 rfl<|Z8 rfl<|Z8 rfl<|Z8 rfl<|Z8 rfl<|Z8 rfl<|Z8 rfl<|Z2<|bH h fun z27 e27 h=>Z1<|Z4 _ (iz e27 (Zb rfl rfl rfl))<|Z8 rfl<|Z2 ?_
    rw [q2] at h
    exact ⟨n1,Nat.lt_succ_self _,z25,i9,i10,i11,z26,i13,i14,i15,z27,h,⟨⟨rfl,rfl,rfl,rfl,rfl,rfl,rfl,rfl,rfl,rfl,rfl,rfl,trivial⟩,(.o (.o (.o .nil)))⟩⟩
   ·exact Z0l _ rfl<|⟨i9,i10,i11,i12,i13,i14,i15,i16,h,⟨⟨rfl,rfl,rfl,rfl,rfl,rfl,rfl,rfl,rfl,rfl,trivial⟩,(.o (.o (.o .nil)))⟩⟩
 ·rintro t m ⟨i1,i2,i3,i4,i5,i6,i7,i8,h,hF⟩
  refine Zm hF ?_
  clear hF
  subst q1
  refine Z0<|Z0<|bH h fun z28 e28 h=>Z1<|Z8 rfl<|Z8 rfl<|Z8 rfl<|Z8 rfl<|Z8 rfl<|Z8 rfl<|Z8 rfl<|Z8 rfl<|Z4 _ (az (fun z=>agg [.ints .u32 8 z]) e28 (Zcd (.one rfl rfl rfl (.one rfl rfl rfl (.one rfl rfl rfl (.one rfl rfl rfl (.one rfl rfl rfl (.one rfl rfl rfl (.one rfl rfl rfl (.one rfl rfl rfl BdR.nil))))))))))<|Z8 rfl<|Z2<|jH h fun k3 q3 h=>Zo (G:=fun t m=>∃ (a1:LI),k3 a1=some r/\Fit [(2,pt' b1),(4,pt' b3)] (ck b3 181 [.ints .u32 8 ((replicate 8 0))]::(ck b2 26 [b6' p1]::(ck b1 181 [.ints .u32 8 (a1)] :: []))) t m) ?_ ?_
  ·refine Zd<|Z07 (fun n2 t m=>∃ (i18:Int) (a2:LI),Z66 z28 k3 n2 i18 a2=some r/\Fit [(2,pt' b1),(4,pt' b3),(95,agg [.ints .u32 8 (z28)]),(96,.int .i64 (i18))] (ck b3 181 [.ints .u32 8 ((replicate 8 0))]::(ck b2 26 [b6' p1]::(ck b1 181 [.ints .u32 8 (a2)] :: []))) t m) big ?_ ?_
   ·exact ⟨0,p0,h,⟨⟨rfl,rfl,rfl,rfl,trivial⟩,(.o (.o (.o .nil)))⟩⟩
   ·rintro n2 t m ⟨i18,a2,h,hF⟩
    refine Zm hF ?_
    clear hF
    rcases n2 with _ | n2
    · exact Z1r h
    have h:Zd3 z28 k3 (Z66 z28 k3 n2) i18 a2=some r:=h
    unfold Zd3 at h
    obtain ⟨k4,q4⟩ : ∃ k,k=Z66 z28 k3 n2:=⟨_,rfl⟩
    try rw [<- q4] at h
    refine Z0<|Z1<|Z4 _ (Zb rfl rfl rfl)<|Z2<|Z0<|Z0r h rfl (fun h=>?_) (fun h=>?_)
    ·refine Zn<|Z0<|Zd<|Z0<|cH h fun c3 h=>bH h fun z29 e29 h=>Z1<|Z8 rfl<|Z4 _ (iz e29 (Zgs (len:=8) rfl rfl (Z1w c3)))<|Z8 rfl<|Z8 rfl<|Z2<|cH h fun c4 h=>bH h fun z30 e30 h=>bH h fun z31 e31 h=>cH h fun c5 h=>bH h fun l1 g1 h=>Z1<|Z8 rfl<|Z4 _ (Z3f rfl rfl (Z1w c4))<|Z4 _ (iz e30 (Z9f (base:=0) rfl .t2 rfl (Z1i c4)))<|Z8 rfl<|Z4 _ (iz e31 (Zb rfl rfl rfl))<|Z4 _ (Z3f rfl rfl (Z1w c5))<|Zc (Z5x (q:=[.ints .u32 8 (l1)]) (base:=0) g1 rfl rfl rfl (Z1i c5) rfl .t2<|Z2<|bH h fun z32 e32 h=>Z1<|Z4 _ (iz e32 (Zb rfl rfl rfl))<|Z8 rfl<|Z2 ?_)
     rw [q4] at h
     exact ⟨n2,Nat.lt_succ_self _,z32,l1,h,⟨⟨rfl,rfl,rfl,rfl,trivial⟩,(.o (.o (.o .nil)))⟩⟩
    ·exact Z0l _ rfl<|⟨a2,h,⟨⟨rfl,rfl,trivial⟩,(.o (.o (.o .nil)))⟩⟩
  ·rintro t m ⟨a1,h,hF⟩
   refine Zm hF ?_
   clear hF
   subst q3
   refine Z0<|Z1<|Z4 _ (Z00 (p:=[.ints .u32 8 (a1)]) rfl .t2 rfl)<|Zc (Zl (q:=[.ints .u32 8 (a1)]) rfl rfl rfl rfl rfl .here<|Z2<|Zf ?_)
   revert h; refine Z01 fun h=>?_
   subst h
   exact ⟨_,(.cons (.agg rfl .here rfl) .nil),rfl⟩
def Z2g  (k1:(LI)->(LI)->(LI)->Int->Option (Z0g)) (l1:LI) (a1:LI) (a2:LI) (i1:Int):Option (Z0g) :=
 br ((decide ((l1.length:Int)>0))) (
 bnd (Int.tmod i1 64) fun z1 =>
 chk (Zki z1 64 64) <|
 bnd (wr a2 (z1).toNat (l1.take (64-(z1).toNat))) fun l2 =>
 chk (Zki ((Nat.min l1.length (64-(z1).toNat):Nat):Int) (l1.length:Int) l1.length) <|
 bnd (wrap .u64 ((Nat.min l1.length (64-(z1).toNat):Nat):Int)) fun z2 =>
 bnd (wrap .u64 (i1+z2)) fun z3 =>
 bnd (Int.tmod z3 64) fun z4 =>
 br ((z4==0)) (
 opt (Zbs a1 l2) fun y1 =>
 k1 ((l1.drop (((Nat.min l1.length (64-(z1).toNat):Nat):Int)).toNat).take (((l1.length:Int)).toNat-(((Nat.min l1.length (64-(z1).toNat):Nat):Int)).toNat)) y1 l2 z3
 ) (
 k1 ((l1.drop (((Nat.min l1.length (64-(z1).toNat):Nat):Int)).toNat).take (((l1.length:Int)).toNat-(((Nat.min l1.length (64-(z1).toNat):Nat):Int)).toNat)) a1 l2 z3
 )
 ) (
 some (⟨a1,a2,i1⟩:Z0g)
 )
def Z13:Nat->(LI)->(LI)->(LI)->Int->Option (Z0g)
  | 0,_,_,_,_=>none
  | n+1,l1,a1,a2,i1=>Z2g  (Z13  n) l1 a1 a2 i1
def Z2s (p0:Z0g) (p1:LI):Option (Z0g) :=
 Z13  big p1 p0.gstate p0.grest p0.glength
theorem Z9c {W:World} {r:Z0g} {p0:Z0g} {p1:LI} {v1:Value} {b:Nat} {T:TypeId} (h:Z2s p0 p1=some r) (h0:Sat W [b] (ck b T [.ints .u32 8 (p0.gstate),b6' p0.grest,.one (.int .u64 (p0.glength))] :: []) W) (hG:Globs W) (hS : ∀ g,g<ng->g ∉ [b]) (A1:Z6m (El.int .u8) W v1 p1/\Zcl v1 p1 [b]) :
    Calls Tryz.prog 40 [.pointer (some ⟨b,0,none⟩),v1].toArray W (Z8e W [b] (fun v Ms=>v = .tuple #[]/\Ms = [.one (ck b T [.ints .u32 8 (r.gstate),b6' r.grest,.one (.int .u64 (r.glength))])])):=by
 unfold Z2s at h
 refine Zs mo ok40 rfl h0 ?_
 refine Zd<|Z07 (fun n1 t m=>∃ (l1:LI) (a1:LI) (a2:LI) (i1:Int) (v39:Value),Z13  n1 l1 a1 a2 i1=some r/\(Z6m (El.int .u8) W v39 l1/\Zcl v39 l1 [b])/\Fit [(0,.pointer (some ⟨b,0,none⟩)),(1,v39)] (ck b T [.ints .u32 8 (a1),b6' a2,.one (.int .u64 (i1))] :: []) t m) big ?_ ?_
 ·exact ⟨p1,p0.gstate,p0.grest,p0.glength,v1,h,A1,⟨⟨rfl,rfl,trivial⟩,(.o .nil)⟩⟩
 ·rintro n1 t m ⟨l1,a1,a2,i1,v39,h,A41,hF⟩
  refine Zm hF ?_
  clear hF
  rcases n1 with _ | n1
  · exact Z1r h
  have h:Z2g  (Z13  n1) l1 a1 a2 i1=some r:=h
  unfold Z2g at h
  obtain ⟨k1,q1⟩ : ∃ k,k=Z13  n1:=⟨_,rfl⟩
  try rw [<- q1] at h
  refine Z0<|Z0<|Z1<|Z8 rfl<|Z4 _ (Z5j rfl (Shp.rd A41.1))<|Z4 _ (Zb rfl rfl rfl)<|Z2<|Z0r h rfl (fun h=>?_) (fun h=>?_)
  ·refine Zn<|Zd<|Z0<|bH h fun z1 e1 h=>cH h fun c1 h=>bH h fun l2 g1 h=>Zv<|Z6 _ (Z04 rfl)<|Z6 _ (Z1l rfl)<|Z6 _ (Z1v rfl)<|Z6 _ (Z04 rfl)<|Z6 _ (Z1l rfl)<|Z6 _ (Z1v rfl)<|Z6 _ (Z04 rfl)<|Zh _ (Z0p rfl .here rfl)<|Z6 _ (iz e1 (Zk6 rfl rfl (by decide)))<|Z6 _ (Z88 rfl (.yes rfl) .no .no (by simp) (cut4 c1))<|Z1q rfl (Zf3 (q:=[.ints .u32 8 (a1),b6' l2,.one (.int .u64 (i1))]) (lo:=(z1).toNat) (hi:=64) (mz:=64) (base:=8) g1 rfl rfl (Z1m A41.1 A41.2) rfl (cutn c1) rfl .here<|Z6 _ (Z04 rfl)<|Zy<|Z0<|cH h fun c2 h=>Z1<|Z8 rfl<|Z8 rfl<|Z4 _ (Ztn (lz:=((Nat.min l1.length (64-(z1).toNat):Nat):Int)) (hz:=(l1.length:Int)) rfl (Shp.rd A41.1) (.yes rfl) .no c2)<|Z8 rfl<|Z2<|Z0<|bH h fun z2 e2 h=>bH h fun z3 e3 h=>Z1<|Z8 rfl<|Z4 _ (Z1l rfl)<|Z4 _ (Z1v rfl)<|Z4 _ (Z0p rfl .here rfl)<|Z8 rfl<|Z4 _ (iz e2 (Z6x rfl))<|Z4 _ (iz e3 (Zb rfl rfl rfl))<|Z4 _ (Z1l rfl)<|Z4 _ (Z1v rfl)<|Zc (Zgc (q:=[.ints .u32 8 (a1),b6' l2,.one (.int .u64 (z3))]) rfl rfl rfl rfl .here<|Z2<|Z0<|bH h fun z4 e4 h=>Z1<|Z8 rfl<|Z4 _ (Z1l rfl)<|Z4 _ (Z1v rfl)<|Z4 _ (Z0p rfl .here rfl)<|Z4 _ (iz e4 (Zk6 rfl rfl (by decide)))<|Z4 _ (Zb rfl rfl rfl)<|Z2<|Z0r h rfl (fun h=>?_) (fun h=>?_)))
   ·refine oH h fun y1 f1 h=>Zv<|Z6 _ (Z04 rfl)<|Z6 _ (Z04 rfl)<|Z6 _ (Z1l rfl)<|Z6 _ (Z1v rfl)<|Z6 _ (Z04 rfl)<|Z6 _ (Z1l rfl)<|Z6 _ (Z1v rfl)<|Zh _ (Z00 (p:=[.ints .u32 8 (a1)]) rfl .here rfl)<|Zh _ (Z00 (p:=[b6' l2]) rfl .here rfl)<|Z6 _ (Z0a rfl (fun w hw=>Zkb f1 (hG.at hw hS)))<|Z6 _ (Z1l rfl)<|Z6 _ (Z1v rfl)<|Z1q rfl (Zl (q:=[.ints .u32 8 (y1),b6' l2,.one (.int .u64 (z3))]) rfl rfl rfl rfl rfl .here<|Zy ?_)
    rw [q1] at h
    exact ⟨n1,Nat.lt_succ_self _,((l1.drop (((Nat.min l1.length (64-(z1).toNat):Nat):Int)).toNat).take (((l1.length:Int)).toNat-(((Nat.min l1.length (64-(z1).toNat):Nat):Int)).toNat)),y1,l2,z3,(Zed 1 v39 (((Nat.min l1.length (64-(z1).toNat):Nat):Int)).toNat ((l1.length:Int)).toNat),h,(Ztq A41 (lz:=((Nat.min l1.length (64-(z1).toNat):Nat):Int)) (hz:=(l1.length:Int)) c2),⟨⟨rfl,rfl,trivial⟩,(.o .nil)⟩⟩
   ·refine Zn ?_
    rw [q1] at h
    exact ⟨n1,Nat.lt_succ_self _,((l1.drop (((Nat.min l1.length (64-(z1).toNat):Nat):Int)).toNat).take (((l1.length:Int)).toNat-(((Nat.min l1.length (64-(z1).toNat):Nat):Int)).toNat)),a1,l2,z3,(Zed 1 v39 (((Nat.min l1.length (64-(z1).toNat):Nat):Int)).toNat ((l1.length:Int)).toNat),h,(Ztq A41 (lz:=((Nat.min l1.length (64-(z1).toNat):Nat):Int)) (hz:=(l1.length:Int)) c2),⟨⟨rfl,rfl,trivial⟩,(.o .nil)⟩⟩
  ·refine Z0l _ rfl ?_
   revert h; refine Z01 fun h=>?_
   subst h
   exact ⟨_,_,.nil,(.o .nil),⟨_,rfl,⟨rfl,rfl⟩⟩⟩
def Zet (p0:Int):OL :=
 bnd (Int.tmod p0 64) fun z1 =>
 bnd (wrap .i64 z1) fun z2 =>
 bnd (wrap .i64 (z2+9)) fun z3 =>
 bnd (Int.tmod z3 64) fun z4 =>
 bnd (wrap .i64 (64-z4)) fun z5 =>
 bnd (Int.tmod z5 64) fun z6 =>
 bnd (wrap .i64 (1+z6)) fun z7 =>
 bnd (wrap .i64 (1+z6)) fun z8 =>
 bnd (wrap .i64 (z8+8)) fun z9 =>
 chk (mkB 1 z7 z9) <|
 chk (inB 0 (replicate (z7).toNat 0:LI).length) <|
 bnd (Zji 0 (replicate (z7).toNat 0:LI) (0:Int).toNat 128) fun l1 =>
 bnd (wrap .u64 (p0*8)) fun z10 =>
 opt (Z0s z10) fun y1 =>
 chk (decide ((l1.length+y1.length)*1<=140737488355328)) <|
 bnd (l1++y1) fun l2 =>
 some l2
theorem Zmh {W:World} {r:(LI)} {p0:Int} (h:Zet p0=some r)  :
    Calls Tryz.prog 86 [.int .u64 (p0)].toArray W (Z8e W [] (fun v Ms=>∃ (u0:Value) (M1:List Ze),v=u0/\Ms = [.all M1]/\Z09 (El.int .u8) u0 M1 r)):=by
 unfold Zet at h
 refine Zs mo ok86 rfl (Zez _) ?_
 refine Z0<|Z1<|Z8 rfl<|Z2<|Z0<|bH h fun z1 e1 h=>bH h fun z2 e2 h=>bH h fun z3 e3 h=>bH h fun z4 e4 h=>bH h fun z5 e5 h=>bH h fun z6 e6 h=>Z1<|Z8 rfl<|Z4 _ (iz e1 (Zk6 rfl rfl (by decide)))<|Z4 _ (iz e2 (Z6x rfl))<|Z4 _ (iz e3 (Zb rfl rfl rfl))<|Z4 _ (iz e4 (Zk6 rfl rfl (by decide)))<|Z4 _ (iz e5 (Zb rfl rfl rfl))<|Z4 _ (iz e6 (Zk6 rfl rfl (by decide)))<|Z8 rfl<|Z2<|Z0<|bH h fun z7 e7 h=>bH h fun z8 e8 h=>bH h fun z9 e9 h=>cH h fun c1 h=>Z1<|Z8 rfl<|Z4 _ (iz e7 (Zb rfl rfl rfl))<|Z8 rfl<|Z4 _ (iz e8 (Zb rfl rfl rfl))<|Z4 _ (iz e9 (Zb rfl rfl rfl))<|Zc (Zf4 (E:=(El.int .u8)) rfl rfl rfl c1 fun v14 w1 O1=>Z8 rfl<|Z2<|Z0<|cH h fun c2 h=>bH h fun l1 g1 h=>Z1<|Z8 rfl<|Z4 _ (Z7u rfl rfl (Shp.own O1) c2)<|Zc (Zlp (E:=(El.int .u8)) g1 O1 .here rfl rfl rfl (Z1i c2) fun w2 O2=>Z2<|Z0<|bH h fun z10 e10 h=>oH h fun y1 f1 h=>cH h fun c3 h=>bH h fun l2 g2 h=>Z1<|Z8 rfl<|Z8 rfl<|Z4 _ (iz e10 (Zb rfl rfl rfl))<|Zc (Zk rfl (fun w hw=>Z1x  f1 ) fun v25 o1 R1=>?_)))
 obtain ⟨_,w3,rfl,rfl,O3⟩:=R1
 refine Zc (Z9r (E:=(El.int .u8)) g2 rfl O2 (.app .here) rfl (Z0b O3 .here) c3 fun v32 w4 O4=>Z8 rfl<|Z2<|Zf ?_)
 revert h; refine Z01 fun h=>?_
 subst h
 exact ⟨_,_,(.cons (.tmp rfl) .nil),(.all .here .nil),⟨_,rfl,⟨v32,w4,rfl,rfl,O4⟩⟩⟩
def Z8f (y1:Z0g) (k1:(LI)->Option ((LI)×Z0g)) (k2:Int->(LI)->Option ((LI)×Z0g)) (i1:Int) (a1:LI):Option ((LI)×Z0g) :=
 br ((decide (i1<8))) (
 chk (inB i1 8) <|
 bnd (y1.gstate.getD (i1).toNat 0) fun z1 =>
 bnd (wrap .i64 (4*i1)) fun z2 =>
 chk (Zki z2 32 32) <|
 opt (Z4p z1) fun y2 =>
 bnd (wr a1 (z2).toNat (y2.take (32-(z2).toNat))) fun l1 =>
 bnd (wrap .i64 (i1+1)) fun z3 =>
 k2 z3 l1
 ) (
 k1 a1
 )
def Z3d (y1:Z0g) (k1:(LI)->Option ((LI)×Z0g)):Nat->Int->(LI)->Option ((LI)×Z0g)
  | 0,_,_=>none
  | n+1,i1,a1=>Z8f y1 k1 (Z3d y1 k1 n) i1 a1
def Z67 (p0:Z0g):Option ((LI)×Z0g) :=
 opt (Zet p0.glength) fun y1 =>
 opt (Z2s p0 y1) fun y2 =>
 jn (fun (a1:LI)=>some (a1,p0)) fun k1=>Z3d y2 k1 big 0 (replicate 32 0)
theorem Zfx {W:World} {r:(LI)×Z0g} {p0:Z0g} {b:Nat} {T:TypeId} (h:Z67 p0=some r) (h0:Sat W [b] (ck b T [.ints .u32 8 (p0.gstate),b6' p0.grest,.one (.int .u64 (p0.glength))] :: []) W) (hG:Globs W) (hS : ∀ g,g<ng->g ∉ [b]) :
    Calls Tryz.prog 41 [.pointer (some ⟨b,0,none⟩)].toArray W (Z8e W [b] (fun v Ms=>v=agg [b3' r.1]/\Ms = [.one (ck b T [.ints .u32 8 (r.2.gstate),b6' r.2.grest,.one (.int .u64 (r.2.glength))])])):=by
 unfold Z67 at h
 refine Zs mo ok41 rfl h0 ?_
 refine Z0<|Z1<|Zc (Zu fun b1 u1=>Z2<|Z0<|Z1<|Z8 rfl<|Z4 _ (Z1l rfl)<|Z4 _ (Z00 (p:=[.ints .u32 8 (p0.gstate),b6' p0.grest,.one (.int .u64 (p0.glength))]) rfl .t1 rfl)<|Zc (Zu fun b2 u2=>Zc (Zl (q:=[.ints .u32 8 (p0.gstate),b6' p0.grest,.one (.int .u64 (p0.glength))]) rfl rfl rfl rfl rfl .here<|Z2<|Z0<|oH h fun y1 f1 h=>oH h fun y2 f2 h=>Z1<|Z8 rfl<|Z4 _ (Z1l rfl)<|Z4 _ (Z1v rfl)<|Z4 _ (Z0p rfl .t2 rfl)<|Zc (Zk rfl (fun w hw=>Zmh  f1 ) fun v7 o1 R1=>?_))))
 obtain ⟨_,w1,rfl,rfl,O1⟩:=R1
 refine Zc (Z2z (mS:=[_]) rfl (Z40.perm (.app .here)) (fun w hw=>Z9c  f2 (Zav hw (mS:=[_]) (Z40.perm (.app .here))) (hG.at hw hS) (hG.ap hS (.app .here) hw) ⟨(Z0b O1 .here) w hw,(Zco (E:=(El.int .u8)) O1 .here .here hw)⟩) fun v13 o2 R2=>?_)
 obtain ⟨rfl,rfl⟩:=R2
 refine Z2<|Z0<|Z1<|Zc (Zu fun b3 u3=>Z2<|Z0<|Z0<|Z1<|Z4 _ (Z1v rfl)<|Z4 _ (Z00 (p:=[.ints .u32 8 (y2.gstate)]) rfl .t1 rfl)<|Z8 rfl<|Z2<|jH h fun k1 q1 h=>Zo (G:=fun t m=>∃ (a1:LI),k1 a1=some r/\Fit [(2,pt' b1),(4,pt' b3)] (ck b3 23 [b3' a1]::(ck b2 183 [.ints .u32 8 (y2.gstate),b6' y2.grest,.one (.int .u64 (y2.glength))]::(ck b1 23 [b3' (replicate 32 0)]::(ck b T [.ints .u32 8 (p0.gstate),b6' p0.grest,.one (.int .u64 (p0.glength))] :: [])))) t m) ?_ ?_)
 ·refine Zd<|Z07 (fun n1 t m=>∃ (i1:Int) (a2:LI),Z3d y2 k1 n1 i1 a2=some r/\Fit [(2,pt' b1),(4,pt' b3),(17,agg [.ints .u32 8 (y2.gstate)]),(18,.int .i64 (i1))] (ck b3 23 [b3' a2]::(ck b2 183 [.ints .u32 8 (y2.gstate),b6' y2.grest,.one (.int .u64 (y2.glength))]::(ck b1 23 [b3' (replicate 32 0)]::(ck b T [.ints .u32 8 (p0.gstate),b6' p0.grest,.one (.int .u64 (p0.glength))] :: [])))) t m) big ?_ ?_
  ·exact ⟨0,(replicate 32 0),h,⟨⟨rfl,rfl,rfl,rfl,trivial⟩,(.o (.o (.one (.app .here) (.one (.app .here) .nil))))⟩⟩
  ·rintro n1 t m ⟨i1,a2,h,hF⟩
   refine Zm hF ?_
   clear hF
   rcases n1 with _ | n1
   · exact Z1r h
   have h:Z8f y2 k1 (Z3d y2 k1 n1) i1 a2=some r:=h
   unfold Z8f at h
   obtain ⟨k2,q2⟩ : ∃ k,k=Z3d y2 k1 n1:=⟨_,rfl⟩
   try rw [<- q2] at h
   refine Z0<|Z1<|Z4 _ (Zb rfl rfl rfl)<|Z2<|Z0<|Z0r h rfl (fun h=>?_) (fun h=>?_)
   ·refine Zn<|Z0<|Zd<|Z0<|cH h fun c1 h=>bH h fun z1 e1 h=>Z1<|Z8 rfl<|Z4 _ (iz e1 (Zgs (len:=8) rfl rfl (Z1w c1)))<|Z8 rfl<|Z8 rfl<|Z2<|bH h fun z2 e2 h=>cH h fun c2 h=>oH h fun y3 f3 h=>bH h fun l1 g1 h=>Zv<|Z6 _ (Z04 rfl)<|Z6 _ (iz e2 (Zb rfl rfl rfl))<|Z6 _ (Z88 rfl (.yes rfl) .no .no (by simp) (cut4 c2))<|Z6 _ (Z04 rfl)<|Z2u (Zk rfl (fun w hw=>Z91  f3 ) fun v116 o3 R3=>?_)
    obtain ⟨_,w2,rfl,rfl,O2⟩:=R3
    refine ⟨(by repeat (first | exact Sup.refl _ | apply Sup.cons | apply Sup.app)),Z1q rfl (Zf3 (q:=[b3' l1]) (lo:=(z2).toNat) (hi:=32) (mz:=32) (base:=0) g1 rfl rfl (Z0b O2 .here) rfl (cutn c2) rfl (.app .here) (Zy (bH h fun z3 e3 h=>Z1 (Z4 _ (iz e3 (Zb rfl rfl rfl)) (Z8 rfl (Z2 ?_))))))⟩
    rw [q2] at h
    exact ⟨n1,Nat.lt_succ_self _,z3,l1,h,⟨⟨rfl,rfl,rfl,rfl,trivial⟩,(.one (.app .here) (.one (.app .here) (.one (.app .here) (.one (.app .here) .nil))))⟩⟩
   ·exact Z0l _ rfl<|⟨a2,h,⟨⟨rfl,rfl,trivial⟩,(.o (.o (.o (.o .nil))))⟩⟩
 ·rintro t m ⟨a1,h,hF⟩
  refine Zm hF ?_
  clear hF
  subst q1
  refine Z0<|Z1<|Z4 _ (Z00 (p:=[b3' a1]) rfl .here rfl)<|Zc (Zl (q:=[b3' a1]) rfl rfl rfl rfl rfl .t2<|Z2<|Zf ?_)
  revert h; refine Z01 fun h=>?_
  subst h
  exact ⟨_,_,(.cons (.agg rfl .t2 rfl) .nil),(.one .t3 .nil),⟨_,rfl,⟨rfl,rfl⟩⟩⟩
def Z72 (p0:LI):OL :=
 opt (Zho ) fun y1 =>
 opt (Z2s y1 p0) fun y2 =>
 opt (Z67 y2) fun y3 =>
 some y3.1
theorem Z3a {W:World} {r:(LI)} {p0:LI} {v0:Value} (h:Z72 p0=some r) (hG:Globs W) (A0:Z6m (El.int .u8) W v0 p0) :
    Calls Tryz.prog 11 [v0].toArray W (Z3c W (agg [b3' r])):=by
 unfold Z72 at h
 refine Za mo ok11 rfl ?_
 refine Z0<|Z1<|Zc (Zu fun b1 u1=>Z2<|Z0<|oH h fun y1 f1 h=>Z1<|Zc (Zk rfl (fun w hw=>Zmg  f1 (hG.at hw (by simp))) fun v5 o1 R1=>?_))
 obtain ⟨b2,T8,rfl,rfl⟩:=R1
 refine Z8 rfl<|Z2<|Z0<|oH h fun y2 f2 h=>Z1<|Z8 rfl<|Z8 rfl<|Zc (Z2z (mS:=[_]) rfl (Z40.perm .here) (fun w hw=>Z9c  f2 (Zav hw (mS:=[_]) (Z40.perm .here)) (hG.at hw (by simp)) (hG.ap (by simp) .here hw) ⟨(Z1m A0 Z1u) w hw,(Zlj (E:=(El.int .u8)) A0 .here hw)⟩) fun v11 o2 R2=>?_)
 obtain ⟨rfl,rfl⟩:=R2
 refine Z2<|Z0<|oH h fun y3 f3 h=>Z1<|Z8 rfl<|Zc (Z2z (mS:=[_]) rfl (Z40.perm .here) (fun w hw=>Zfx  f3 (Zav hw (mS:=[_]) (Z40.perm .here)) (hG.at hw (by simp)) (hG.ap (by simp) .here hw)) fun v15 o3 R3=>?_)
 obtain ⟨rfl,rfl⟩:=R3
 refine Zc (Zl (q:=[b3' y3.1]) rfl rfl rfl rfl rfl .t1<|Z2<|Zf ?_)
 revert h; refine Z01 fun h=>?_
 subst h
 exact ⟨_,(.cons (.agg rfl .t1 rfl) .nil),rfl⟩
def Zbm (p0:LI):OL :=
 some (tk p0 0 32)
theorem Zej {W:World} {r:(LI)} {p0:LI} (h:Zbm p0=some r)  :
    Calls Tryz.prog 244 [agg [b3' p0]].toArray W (Z8e W [] (fun v Ms=>∃ (u0:Value) (M1:List Ze),v=u0/\Ms = [.all M1]/\Z09 (El.int .u8) u0 M1 r)):=by
 unfold Zbm at h
 refine Zs mo Z0ng rfl (Zez _) ?_
 refine Z0<|Z1<|Zc (Z06 (s:=[b3' p0]) rfl fun b1 hb1=>Z8 rfl<|Z2<|Z0<|Z1<|Z4 _ (Z88 rfl .no .no .no (by simp) (by decide))<|Z8 rfl<|Z2<|Zf ?_)
 revert h; refine Z01 fun h=>?_
 subst h
 exact ⟨_,_,(.cons (.tmp rfl) .nil),(.o .nil),⟨_,rfl,⟨(.slice (some (Z1y b1 0 0 32 1)) (32-0) (32-0)),[ck b1 23 [b3' p0]],rfl,rfl,(Zj6 (s:=[b3' p0]) (N:=32) (k:=.u8) (base:=0) (lo:=0) (hi:=32) (mz:=32) rfl (by decide))⟩⟩⟩
def Z1f (p0:Int) (l1:LI) (k1:(LI)->OL) (k2:(LI)->Int->OL) (l2:LI) (i1:Int):OL :=
 br ((decide (i1<(l1.length:Int)))) (
 chk (inB i1 l2.length) <|
 bnd (l2.getD (i1).toNat 0) fun z1 =>
 bnd (Z7 .xor .u8 z1 p0) fun z2 =>
 chk (inB i1 l2.length) <|
 bnd (Zji 0 l2 (i1).toNat z2) fun l3 =>
 bnd (wrap .i64 (i1+1)) fun z3 =>
 k2 l3 z3
 ) (
 k1 l2
 )
def Z0x (p0:Int) (l1:LI) (k1:(LI)->OL):Nat->(LI)->Int->OL
  | 0,_,_=>none
  | n+1,l2,i1=>Z1f p0 l1 k1 (Z0x p0 l1 k1 n) l2 i1
def Z2f (p0:Int) (p1:Int) (p2:LI):OL :=
 chk (mkB 1 p1 p1) <|
 chk (decide (0<(replicate (p1).toNat 0:LI).length)) <|
 bnd (p2.take (replicate (p1).toNat 0:LI).length++(replicate (p1).toNat 0:LI).drop p2.length) fun l1 =>
 jn (fun (l2:LI)=>some l2) fun k1=>Z0x p0 l1 k1 big l1 0
theorem Z4s {W:World} {r:(LI)} {p0:Int} {p1:Int} {p2:LI} {cb1:Nat} {cb2:Nat} {v2:Value} (h:Z2f p0 p1 p2=some r) (A1:Zvy W cb1 (.int .i64 (p1))) (B2:Z6m (El.int .u8) W v2 p2) (A2:Zvy W cb2 (v2)) :
    Calls Tryz.prog 338 [.int .u8 (p0),.pointer (some ⟨cb1,0,none⟩),.pointer (some ⟨cb2,0,none⟩)].toArray W (Z8e W [] (fun v Ms=>∃ (u0:Value) (M1:List Ze),v=u0/\Ms = [.all M1]/\Z09 (El.int .u8) u0 M1 r)):=by
 unfold Z2f at h
 refine Zs mo Z0or rfl (Zez _) ?_
 refine Z0<|Z1<|Z8 rfl<|Z2<|Z0<|cH h fun c1 h=>Z1<|Z4 _ (Z7e rfl (Z3k A1 (by simp)))<|Zc (Zf4 (E:=(El.int .u8)) rfl rfl rfl c1 fun v4 w1 O1=>Z8 rfl<|Z2<|Z0<|cH h fun c2 h=>bH h fun l1 g1 h=>Z1<|Z8 rfl<|Z4 _ (Z7e rfl (Z3k A2 (by simp)))<|Zc (Z04p (E:=(El.int .u8)) g1 rfl O1 .here rfl (Z1m B2 Z1u) (of_decide_eq_true c2) fun w2 O2=>Z2<|Z0<|Z0<|Z1<|Z8 rfl<|Z4 _ (Z5j rfl (Shp.own O2))<|Z8 rfl<|Z2<|jH h fun k1 q1 h=>Zo (G:=fun t m=>∃ (l2:LI) (v63:Value) (w3:List Ze),k1 l2=some r/\Z09 (El.int .u8) v63 w3 l2/\Fit [(5,v63)] (w3 ++ []) t m) ?_ ?_))
 ·refine Zd<|Z07 (fun n1 t m=>∃ (l3:LI) (i1:Int) (v98:Value) (w4:List Ze),Z0x p0 l1 k1 n1 l3 i1=some r/\Z09 (El.int .u8) v98 w4 l3/\Fit [(0,.int .u8 (p0)),(5,v98),(13,.int .i64 ((l1.length:Int))),(14,.int .i64 (i1))] (w4 ++ []) t m) big ?_ ?_
  ·exact ⟨l1,0,v4,w2,h,O2,⟨⟨rfl,rfl,rfl,rfl,trivial⟩,(.all .here .nil)⟩⟩
  ·rintro n1 t m ⟨l3,i1,v98,w4,h,O3,hF⟩
   refine Zm hF ?_
   clear hF
   rcases n1 with _ | n1
   · exact Z1r h
   have h:Z1f p0 l1 k1 (Z0x p0 l1 k1 n1) l3 i1=some r:=h
   unfold Z1f at h
   obtain ⟨k2,q2⟩ : ∃ k,k=Z0x p0 l1 k1 n1:=⟨_,rfl⟩
   try rw [<- q2] at h
   refine Z0<|Z1<|Z4 _ (Zb rfl rfl rfl)<|Z2<|Z0<|Z0r h rfl (fun h=>?_) (fun h=>?_)
   ·refine Zn<|Z0<|Zd<|Z0<|Z1<|Z8 rfl<|Z8 rfl<|Z2<|cH h fun c3 h=>bH h fun z1 e1 h=>bH h fun z2 e2 h=>cH h fun c4 h=>bH h fun l4 g2 h=>Z1<|Z8 rfl<|Z8 rfl<|Z4 _ (Z7u rfl rfl (Shp.own O3) c3)<|Z4 _ (iz e1 (Zaq (E:=(El.int .u8)) (s:=[.one (.int .u8 (l3.getD (i1).toNat 0))]) rfl (Z0b O3 .here) (Z1i c3) rfl rfl))<|Z8 rfl<|Z4 _ (iz e2 (Zb rfl rfl rfl))<|Z4 _ (Z7u rfl rfl (Shp.own O3) c4)<|Zc (Zlp (E:=(El.int .u8)) g2 O3 .here rfl rfl rfl (Z1i c4) fun w5 O4=>Z2<|bH h fun z3 e3 h=>Z1<|Z4 _ (iz e3 (Zb rfl rfl rfl))<|Z8 rfl<|Z2 ?_)
    rw [q2] at h
    exact ⟨n1,Nat.lt_succ_self _,l4,z3,v98,w5,h,O4,⟨⟨rfl,rfl,rfl,rfl,trivial⟩,(.all .here .nil)⟩⟩
   ·exact Z0l _ rfl<|⟨l3,v98,w4,h,O3,⟨⟨rfl,trivial⟩,(.all .here .nil)⟩⟩
 ·rintro t m ⟨l2,v63,w3,h,O5,hF⟩
  refine Zm hF ?_
  clear hF
  subst q1
  refine Z0<|Z1<|Z8 rfl<|Z8 rfl<|Z2<|Zf ?_
  revert h; refine Z01 fun h=>?_
  subst h
  exact ⟨_,_,(.cons (.tmp rfl) .nil),(.all .here .nil),⟨_,rfl,⟨v63,w3,rfl,rfl,O5⟩⟩⟩
def Zg7 (p0:List (LI)) (k1:Int->OL) (k2:Int->Int->OL) (i1:Int) (i2:Int):OL :=
 br ((decide (i2<(p0.length:Int)))) (
 chk (inB i2 p0.length) <|
 bnd (wrap .i64 (i1+((p0.getD (i2).toNat []).length:Int))) fun z1 =>
 bnd (wrap .i64 (i2+1)) fun z2 =>
 k2 z1 z2
 ) (
 k1 i1
 )
def Zbc (p0:List (LI)) (k1:Int->OL):Nat->Int->Int->OL
  | 0,_,_=>none
  | n+1,i1,i2=>Zg7 p0 k1 (Zbc p0 k1 n) i1 i2
def Zg8 (p0:List (LI)) (k1:(LI)->OL) (k2:(LI)->Int->OL) (l1:LI) (i1:Int):OL :=
 br ((decide (i1<(p0.length:Int)))) (
 chk (inB i1 p0.length) <|
 chk (decide ((l1.length+(p0.getD (i1).toNat []).length)*1<=140737488355328)) <|
 bnd (l1++(p0.getD (i1).toNat [])) fun l2 =>
 bnd (wrap .i64 (i1+1)) fun z1 =>
 k2 l2 z1
 ) (
 k1 l1
 )
def Zbd (p0:List (LI)) (k1:(LI)->OL):Nat->(LI)->Int->OL
  | 0,_,_=>none
  | n+1,l1,i1=>Zg8 p0 k1 (Zbd p0 k1 n) l1 i1
def Z6t (p0:List (LI)):OL :=
 jn (fun (i1:Int)=>chk (mkB 1 0 i1) <|
 jn (fun (l1:LI)=>some l1) fun k1=>Zbd p0 k1 big (replicate 0 0:LI) 0) fun k2=>Zbc p0 k2 big 0 0
theorem Z30 {W:World} {r:(LI)} {p0:List (LI)} {v0:Value} {us0:List SlT} (h:Z6t p0=some r) (A0:Z6m El.sl W v0 us0) (B0:Zg3 (El.int .u8) W us0 p0) :
    Calls Tryz.prog 58 [v0].toArray W (Z8e W [] (fun v Ms=>∃ (u0:Value) (M1:List Ze),v=u0/\Ms = [.all M1]/\Z09 (El.int .u8) u0 M1 r)):=by
 unfold Z6t at h
 refine Zs mo ok58 rfl (Zez _) ?_
 refine Z0<|Z1<|Z8 rfl<|Z2<|Z0<|Z1<|Z8 rfl<|Z2<|Z0<|Z0<|Z1<|Z8 rfl<|Z4 _ ((Zry (Z5j rfl (Shp.rd A0)) (Zg3.len B0)))<|Z8 rfl<|Z2<|jH h fun k1 q1 h=>Zo (G:=fun t m=>∃ (i1:Int),k1 i1=some r/\Fit [(0,v0),(3,.int .i64 (i1))] [] t m) ?_ ?_
 ·refine Zd<|Z07 (fun n1 t m=>∃ (i2:Int) (i3:Int),Zbc p0 k1 n1 i2 i3=some r/\Fit [(0,v0),(3,.int .i64 (i2)),(9,v0),(10,.int .i64 ((p0.length:Int))),(11,.int .i64 (i3))] [] t m) big ?_ ?_
  ·exact ⟨0,0,h,⟨⟨rfl,rfl,rfl,rfl,rfl,trivial⟩,.nil⟩⟩
  ·rintro n1 t m ⟨i2,i3,h,hF⟩
   refine Zm hF ?_
   clear hF
   rcases n1 with _ | n1
   · exact Z1r h
   have h:Zg7 p0 k1 (Zbc p0 k1 n1) i2 i3=some r:=h
   unfold Zg7 at h
   obtain ⟨k2,q2⟩ : ∃ k,k=Zbc p0 k1 n1:=⟨_,rfl⟩
   try rw [<- q2] at h
   refine Z0<|Z1<|Z4 _ (Zb rfl rfl rfl)<|Z2<|Z0<|Z0r h rfl (fun h=>?_) (fun h=>?_)
   ·refine Zn<|Z0<|Zd<|Z0<|cH h fun c1 h=>Z1<|Z4 _ (Z7u rfl rfl (Shp.rd A0) (Zjr B0 c1))<|Z4 _ (Zaq (E:=El.sl) (s:=[.one (slV (us0.getD (i3).toNat (none,0,0)))]) rfl (Z1m A0 Z1u) (Z1i (Zjr B0 c1)) rfl rfl)<|Z8 rfl<|Z2<|bH h fun z1 e1 h=>Z1<|Z8 rfl<|Z8 rfl<|Z4 _ (Z5j rfl (Shp.rd (Zg3.get B0 _ (Z1i c1))))<|Z4 _ (iz e1 (Zb rfl rfl rfl))<|Z8 rfl<|Z2<|bH h fun z2 e2 h=>Z1<|Z4 _ (iz e2 (Zb rfl rfl rfl))<|Z8 rfl<|Z2 ?_
    rw [q2] at h
    exact ⟨n1,Nat.lt_succ_self _,z1,z2,h,⟨⟨rfl,rfl,rfl,rfl,rfl,trivial⟩,.nil⟩⟩
   ·exact Z0l _ rfl<|⟨i2,h,⟨⟨rfl,rfl,trivial⟩,.nil⟩⟩
 ·rintro t m ⟨i1,h,hF⟩
  refine Zm hF ?_
  clear hF
  subst q1
  refine Z0<|cH h fun c2 h=>Z1<|Z8 rfl<|Zc (Zf4 (E:=(El.int .u8)) rfl rfl rfl c2 fun v66 w1 O1=>Z8 rfl<|Z2<|Z0<|Z0<|Z1<|Z8 rfl<|Z4 _ ((Zry (Z5j rfl (Shp.rd A0)) (Zg3.len B0)))<|Z8 rfl<|Z2<|jH h fun k3 q3 h=>Zo (G:=fun t m=>∃ (l1:LI) (v117:Value) (w2:List Ze),k3 l1=some r/\Z09 (El.int .u8) v117 w2 l1/\Fit [(6,v117)] (w2 ++ []) t m) ?_ ?_)
  ·refine Zd<|Z07 (fun n2 t m=>∃ (l2:LI) (i4:Int) (v150:Value) (w3:List Ze),Zbd p0 k3 n2 l2 i4=some r/\Z09 (El.int .u8) v150 w3 l2/\Fit [(6,v150),(22,v0),(23,.int .i64 ((p0.length:Int))),(24,.int .i64 (i4))] (w3 ++ []) t m) big ?_ ?_
   ·exact ⟨(replicate 0 0:LI),0,v66,w1,h,O1,⟨⟨rfl,rfl,rfl,rfl,trivial⟩,(.all .here .nil)⟩⟩
   ·rintro n2 t m ⟨l2,i4,v150,w3,h,O2,hF⟩
    refine Zm hF ?_
    clear hF
    rcases n2 with _ | n2
    · exact Z1r h
    have h:Zg8 p0 k3 (Zbd p0 k3 n2) l2 i4=some r:=h
    unfold Zg8 at h
    obtain ⟨k4,q4⟩ : ∃ k,k=Zbd p0 k3 n2:=⟨_,rfl⟩
    try rw [<- q4] at h
    refine Z0<|Z1<|Z4 _ (Zb rfl rfl rfl)<|Z2<|Z0<|Z0r h rfl (fun h=>?_) (fun h=>?_)
    ·refine Zn<|Z0<|Zd<|Z0<|cH h fun c3 h=>Z1<|Z4 _ (Z7u rfl rfl (Shp.rd A0) (Zjr B0 c3))<|Z4 _ (Zaq (E:=El.sl) (s:=[.one (slV (us0.getD (i4).toNat (none,0,0)))]) rfl (Z1m A0 Z1u) (Z1i (Zjr B0 c3)) rfl rfl)<|Z8 rfl<|Z2<|cH h fun c4 h=>bH h fun l3 g1 h=>Z1<|Z8 rfl<|Z8 rfl<|Zc (Z9r (E:=(El.int .u8)) g1 rfl O2 .here rfl (Z1m (Zg3.get B0 _ (Z1i c3)) Z1u) c4 fun v164 w4 O3=>Z8 rfl<|Z2<|bH h fun z3 e3 h=>Z1<|Z4 _ (iz e3 (Zb rfl rfl rfl))<|Z8 rfl<|Z2 ?_)
     rw [q4] at h
     exact ⟨n2,Nat.lt_succ_self _,l3,z3,v164,w4,h,O3,⟨⟨rfl,rfl,rfl,rfl,trivial⟩,(.all .here .nil)⟩⟩
    ·exact Z0l _ rfl<|⟨l2,v150,w3,h,O2,⟨⟨rfl,trivial⟩,(.all .here .nil)⟩⟩
  ·rintro t m ⟨l1,v117,w2,h,O4,hF⟩
   refine Zm hF ?_
   clear hF
   subst q3
   refine Z0<|Z1<|Z8 rfl<|Z8 rfl<|Z2<|Zf ?_
   revert h; refine Z01 fun h=>?_
   subst h
   exact ⟨_,_,(.cons (.tmp rfl) .nil),(.all .here .nil),⟨_,rfl,⟨v117,w2,rfl,rfl,O4⟩⟩⟩
end Go.Proofs.YteefpkhngighgaaGreatDoor
namespace Go.Proofs.YteefpkhngighgaaGreatDoor
open Go Go.Sx Go.RowKit
set_option linter.all false
set_option maxHeartbeats 400000
set_option maxRecDepth 100000
def Z5u (p0:LI) (p1:LI) (p2:Int):OL :=
 jn (fun (l1:LI)=>jn (fun (a1:LI)=>opt (Z2f 92 p2 l1) fun y1 =>
 opt (Zbm a1) fun y2 =>
 opt (Z6t [y1,y2]) fun y3 =>
 opt (Z72 y3) fun y4 =>
 some y4) fun k1=>opt (Z2f 54 p2 l1) fun y5 =>
 opt (Z6t [y5,p1]) fun y6 =>
 opt (Z72 y6) fun y7 =>
 k1 y7) fun k2=>br ((decide ((p0.length:Int)>p2))) (
 opt (Z72 p0) fun y8 =>
 opt (Zbm y8) fun y9 =>
 k2 y9
 ) (
 k2 p0
 )
theorem Zdw {W:World} {r:(LI)} {p0:LI} {p1:LI} {p2:Int} {v0:Value} {v1:Value} {cb2:Nat} {cb3:Nat} {cb4:Nat} (h:Z5u p0 p1 p2=some r) (hG:Globs W) (A0:Z6m (El.int .u8) W v0 p0) (A1:Z6m (El.int .u8) W v1 p1) (A2:Zvy W cb2 (.int .i64 (p2))) (A3:Zvy W cb3 (.func (.func 244) #[] #[])) (A4:Zvy W cb4 (.func (.func 11) #[] #[])) :
    Calls Tryz.prog 337 [v0,v1,.pointer (some ⟨cb2,0,none⟩),.pointer (some ⟨cb3,0,none⟩),.pointer (some ⟨cb4,0,none⟩)].toArray W (Z3c W (agg [b3' r])):=by
 unfold Z5u at h
 refine Za mo Z0oq rfl ?_
 refine Z0<|Z1<|Zc (Zdf rfl (Z9i.cells (Shp.isSl (Shp.rd A0))) fun b1 u1=>Zc (Zu fun b2 u2=>Z2<|Z0<|Z0<|Z1<|Z4 _ (Z0p rfl .t1 rfl)<|Z4 _ (Z5j rfl (Shp.rd A0))<|Z4 _ (Z7e rfl (Z3k A2 (by simp)))<|Z4 _ (Zb rfl rfl rfl)<|Z2<|jH h fun k1 q1 h=>Zo (G:=fun t m=>∃ (l1:LI) (v14:Value) (w1:List Ze),k1 l1=some r/\Zms (⟨Tryz.prog,d337.n,W,[]⟩:Cfg) w1 (El.int .u8) v14 l1/\Shp v14 l1.length/\Fit [(1,v1),(2,.pointer (some ⟨cb2,0,none⟩)),(3,.pointer (some ⟨cb3,0,none⟩)),(4,.pointer (some ⟨cb4,0,none⟩)),(5,pt' b1),(7,pt' b2)] (ck b2 23 [b3' (List.replicate 32 0)]::(ck b1 58 [.one (v14)]::(w1 ++ []))) t m) ?_ ?_))
 ·refine Z0r h rfl (fun h=>?_) (fun h=>?_)
  ·refine oH h fun y1 f1 h=>oH h fun y2 f2 h=>Zv<|Zh _ (Z7e rfl (Z3k A3 (by simp)))<|Zh _ (Z7e rfl (Z3k A4 (by simp)))<|Zh _ (Z0p rfl .t1 rfl)<|Z2u (Z94 rfl rfl rfl (fun w hw=>Z3a f1 (hG.at hw (by simp)) ((Z1m A0 Z1u) w hw)) ⟨(by repeat (first | exact Sup.refl _ | apply Sup.cons | apply Sup.app)),Z2u (Z7l rfl rfl rfl (fun w hw=>Zej  f2 ) fun v24 o1 R1=>?_)⟩)
   obtain ⟨_,w2,rfl,rfl,O1⟩:=R1
   exact ⟨(by repeat (first | exact Sup.refl _ | apply Sup.cons | apply Sup.app)),Z1q rfl (Zgc (q:=[.one (v24)]) rfl rfl (Z9i.one1 (Z09.isSl O1)) rfl (.app .t1) (Zy (⟨y2,v24,w2,h,(Zyo O1),(Shp.own O1),⟨⟨rfl,rfl,rfl,rfl,rfl,rfl,trivial⟩,(.one (.app .here) (.one (.app .here) (.all .here .nil)))⟩⟩)))⟩
  ·exact Zn<|⟨p0,v0,[],h,(Z1m A0 Z1u),(Shp.rd A0),⟨⟨rfl,rfl,rfl,rfl,rfl,rfl,trivial⟩,(.o (.o (.no .nil)))⟩⟩
 ·rintro t m ⟨l1,v14,w1,h,H17,Z18,hF⟩
  refine Zm hF ?_
  clear hF
  subst q1
  refine Z0<|Z1<|Z4 _ (Zqi rfl)<|Z8 rfl<|Z2<|Z0<|jH h fun k2 q2 h=>Zo (G:=fun t m=>∃ (a1:LI) (b3:Nat),k2 a1=some r/\Fit [(3,.pointer (some ⟨cb3,0,none⟩)),(4,.pointer (some ⟨cb4,0,none⟩)),(7,pt' b2),(8,.func (.func 338) #[] #[.pointer (some ⟨cb2,0,none⟩),pt' b1]),(9,pt' b3)] (ck b3 23 [b3' a1]::(ck b2 23 [b3' (List.replicate 32 0)]::(ck b1 58 [.one (v14)]::(w1 ++ [])))) t m) ?_ ?_
  ·refine oH h fun y3 f3 h=>oH h fun y4 f4 h=>oH h fun y5 f5 h=>Zv<|Z6 _ (Z04 rfl)<|Z6 _ (Z04 rfl)<|Zh _ (Z7e rfl (Z3k A4 (by simp)))<|Zey (Z7l rfl rfl rfl (fun w hw=>Z4s  f3 ((Z3k A2 (by simp)) w hw) ((Zyn H17 .t2) w hw) (Zjs .t1 w hw)) fun v53 o2 R2=>?_) (Zu fun b4 u3=>?_)
   ·obtain ⟨_,w3,rfl,rfl,O2⟩:=R2
    refine ⟨(by repeat (first | exact Sup.refl _ | apply Sup.cons | apply Sup.app)),Zey (Z54 (E:=El.sl) (xs:=[unS v53,unS v1]) (.one rfl (Z9i.cells (Z09.isSl O2)) rfl (.one rfl (Z9i.cells (Shp.isSl (Shp.rd A1))) rfl BdR.nil)) (.cons (p:=[.one v53]) (Z26 (Z09.isSl O2)) (.cons (p:=[.one v1]) (Z26 (Shp.isSl (Shp.rd A1))) .nil)) rfl fun v58 w4 O3=>⟨(by repeat (first | exact Sup.refl _ | apply Sup.cons | apply Sup.app)),?_⟩) (Zu fun b4 u3=>⟨(by repeat (first | exact Sup.refl _ | apply Sup.cons | apply Sup.app)),?_⟩)⟩
    ·refine Zey (Zk rfl (fun w hw=>Z30  f4 (Z0b O3 .here w hw) (.cons (Z29 ((Z0b O2 (.app .here)) w hw)) (.cons (Z29 ((Z1m A1 Z1u) w hw)) .nil))) fun v62 o3 R3=>?_) (Zu fun b4 u3=>?_)
     ·obtain ⟨_,w5,rfl,rfl,O4⟩:=R3
      refine ⟨(by repeat (first | exact Sup.refl _ | apply Sup.cons | apply Sup.app)),Zey (Z94 rfl rfl rfl (fun w hw=>Z3a f5 (hG.at hw (by simp)) ((Z0b O4 .here) w hw)) ⟨(by repeat (first | exact Sup.refl _ | apply Sup.cons | apply Sup.app)),?_⟩) (Zu fun b4 u3=>⟨(by repeat (first | exact Sup.refl _ | apply Sup.cons | apply Sup.app)),?_⟩)⟩
      ·exact Z2u (Zu fun b4 u3=>⟨(by repeat (first | exact Sup.refl _ | apply Sup.cons | apply Sup.app)),Z1q rfl (Zl (q:=[b3' y5]) rfl rfl rfl rfl rfl .here (Zy (⟨y5,b4,h,⟨⟨rfl,rfl,rfl,rfl,rfl,trivial⟩,(.o (.one (.app (.app (.app .here))) (.one (.app (.app (.app .here))) (.all (.app (.app (.app .here))) .nil))))⟩⟩)))⟩)
      ·exact Z2u (Z94 rfl rfl rfl (fun w hw=>Z3a f5 (hG.at hw (by simp)) ((Z0b O4 .t1) w hw)) ⟨(by repeat (first | exact Sup.refl _ | apply Sup.cons | apply Sup.app)),Z1q rfl (Zl (q:=[b3' y5]) rfl rfl rfl rfl rfl .here (Zy (⟨y5,b4,h,⟨⟨rfl,rfl,rfl,rfl,rfl,trivial⟩,(.o (.one (.app (.app (.app .here))) (.one (.app (.app (.app .here))) (.all (.app (.app (.app .here))) .nil))))⟩⟩)))⟩)
     ·refine ⟨(by repeat (first | exact Sup.refl _ | apply Sup.cons | apply Sup.app)),Z2u (Zk rfl (fun w hw=>Z30  f4 (Z0b O3 .t1 w hw) (.cons (Z29 ((Z0b O2 (.there (.app .here))) w hw)) (.cons (Z29 ((Z1m A1 Z1u) w hw)) .nil))) fun v62 o3 R3=>?_)⟩
      obtain ⟨_,w5,rfl,rfl,O4⟩:=R3
      exact ⟨(by repeat (first | exact Sup.refl _ | apply Sup.cons | apply Sup.app)),Z2u (Z94 rfl rfl rfl (fun w hw=>Z3a f5 (hG.at hw (by simp)) ((Z0b O4 .here) w hw)) ⟨(by repeat (first | exact Sup.refl _ | apply Sup.cons | apply Sup.app)),Z1q rfl (Zl (q:=[b3' y5]) rfl rfl rfl rfl rfl (.app .here) (Zy (⟨y5,b4,h,⟨⟨rfl,rfl,rfl,rfl,rfl,trivial⟩,(.one (.app .here) (.one (.app (.app (.app .here))) (.one (.app (.app (.app .here))) (.all (.app (.app (.app .here))) .nil))))⟩⟩)))⟩)⟩
    ·refine Z2u (Z54 (E:=El.sl) (xs:=[unS v53,unS v1]) (.one rfl (Z9i.cells (Z09.isSl O2)) rfl (.one rfl (Z9i.cells (Shp.isSl (Shp.rd A1))) rfl BdR.nil)) (.cons (p:=[.one v53]) (Z26 (Z09.isSl O2)) (.cons (p:=[.one v1]) (Z26 (Shp.isSl (Shp.rd A1))) .nil)) rfl fun v58 w4 O3=>⟨(by repeat (first | exact Sup.refl _ | apply Sup.cons | apply Sup.app)),Z2u (Zk rfl (fun w hw=>Z30  f4 (Z0b O3 .here w hw) (.cons (Z29 ((Z0b O2 (.app .t1)) w hw)) (.cons (Z29 ((Z1m A1 Z1u) w hw)) .nil))) fun v62 o3 R3=>?_)⟩)
     obtain ⟨_,w5,rfl,rfl,O4⟩:=R3
     exact ⟨(by repeat (first | exact Sup.refl _ | apply Sup.cons | apply Sup.app)),Z2u (Z94 rfl rfl rfl (fun w hw=>Z3a f5 (hG.at hw (by simp)) ((Z0b O4 .here) w hw)) ⟨(by repeat (first | exact Sup.refl _ | apply Sup.cons | apply Sup.app)),Z1q rfl (Zl (q:=[b3' y5]) rfl rfl rfl rfl rfl (.app (.app .here)) (Zy (⟨y5,b4,h,⟨⟨rfl,rfl,rfl,rfl,rfl,trivial⟩,(.one (.app (.app .here)) (.one (.app (.app (.app .here))) (.one (.app (.app (.app .here))) (.all (.app (.app (.app .here))) .nil))))⟩⟩)))⟩)⟩
   ·refine ⟨(by repeat (first | exact Sup.refl _ | apply Sup.cons | apply Sup.app)),Z2u (Z7l rfl rfl rfl (fun w hw=>Z4s  f3 ((Z3k A2 (by simp)) w hw) ((Zyn H17 .t3) w hw) (Zjs .t2 w hw)) fun v53 o2 R2=>?_)⟩
    obtain ⟨_,w3,rfl,rfl,O2⟩:=R2
    refine ⟨(by repeat (first | exact Sup.refl _ | apply Sup.cons | apply Sup.app)),Z2u (Z54 (E:=El.sl) (xs:=[unS v53,unS v1]) (.one rfl (Z9i.cells (Z09.isSl O2)) rfl (.one rfl (Z9i.cells (Shp.isSl (Shp.rd A1))) rfl BdR.nil)) (.cons (p:=[.one v53]) (Z26 (Z09.isSl O2)) (.cons (p:=[.one v1]) (Z26 (Shp.isSl (Shp.rd A1))) .nil)) rfl fun v58 w4 O3=>⟨(by repeat (first | exact Sup.refl _ | apply Sup.cons | apply Sup.app)),Z2u (Zk rfl (fun w hw=>Z30  f4 (Z0b O3 .here w hw) (.cons (Z29 ((Z0b O2 (.app .here)) w hw)) (.cons (Z29 ((Z1m A1 Z1u) w hw)) .nil))) fun v62 o3 R3=>?_)⟩)⟩
    obtain ⟨_,w5,rfl,rfl,O4⟩:=R3
    exact ⟨(by repeat (first | exact Sup.refl _ | apply Sup.cons | apply Sup.app)),Z2u (Z94 rfl rfl rfl (fun w hw=>Z3a f5 (hG.at hw (by simp)) ((Z0b O4 .here) w hw)) ⟨(by repeat (first | exact Sup.refl _ | apply Sup.cons | apply Sup.app)),Z1q rfl (Zl (q:=[b3' y5]) rfl rfl rfl rfl rfl (.app (.app (.app .here))) (Zy (⟨y5,b4,h,⟨⟨rfl,rfl,rfl,rfl,rfl,trivial⟩,(.one (.app (.app (.app .here))) (.one (.app (.app (.app .here))) (.one (.app (.app (.app .here))) (.all (.app (.app (.app .here))) .nil))))⟩⟩)))⟩)⟩
  ·rintro t m ⟨a1,b3,h,hF⟩
   refine Zm hF ?_
   clear hF
   subst q2
   refine Z0<|oH h fun y6 f6 h=>oH h fun y7 f7 h=>oH h fun y8 f8 h=>oH h fun y9 f9 h=>Zv<|Z6 _ (Z04 rfl)<|Zh _ (Z7e rfl (Z3k A4 (by simp)))<|Zh _ (Z7e rfl (Z3k A3 (by simp)))<|Zh _ (Z00 (p:=[b3' a1]) rfl .here rfl)<|Z2u (Z7l rfl rfl rfl (fun w hw=>Z4s  f6 ((Z3k A2 (by simp)) w hw) ((Zyn H17 .t3) w hw) (Zjs .t2 w hw)) fun v71 o4 R4=>?_)
   obtain ⟨_,w6,rfl,rfl,O5⟩:=R4
   refine ⟨(by repeat (first | exact Sup.refl _ | apply Sup.cons | apply Sup.app)),Z2u (Z7l rfl rfl rfl (fun w hw=>Zej  f7 ) fun v77 o5 R5=>?_)⟩
   obtain ⟨_,w7,rfl,rfl,O6⟩:=R5
   refine ⟨(by repeat (first | exact Sup.refl _ | apply Sup.cons | apply Sup.app)),Z2u (Z54 (E:=El.sl) (xs:=[unS v71,unS v77]) (.one rfl (Z9i.cells (Z09.isSl O5)) rfl (.one rfl (Z9i.cells (Z09.isSl O6)) rfl BdR.nil)) (.cons (p:=[.one v71]) (Z26 (Z09.isSl O5)) (.cons (p:=[.one v77]) (Z26 (Z09.isSl O6)) .nil)) rfl fun v82 w8 O7=>⟨(by repeat (first | exact Sup.refl _ | apply Sup.cons | apply Sup.app)),Z2u (Zk rfl (fun w hw=>Z30  f8 (Z0b O7 .here w hw) (.cons (Z29 ((Z0b O5 (.app (.app .here))) w hw)) (.cons (Z29 ((Z0b O6 (.app .here)) w hw)) .nil))) fun v86 o6 R6=>?_)⟩)⟩
   obtain ⟨_,w9,rfl,rfl,O8⟩:=R6
   refine ⟨(by repeat (first | exact Sup.refl _ | apply Sup.cons | apply Sup.app)),Z2u (Z94 rfl rfl rfl (fun w hw=>Z3a f9 (hG.at hw (by simp)) ((Z0b O8 .here) w hw)) ⟨(by repeat (first | exact Sup.refl _ | apply Sup.cons | apply Sup.app)),Z1q rfl (Zl (q:=[b3' y9]) rfl rfl rfl rfl rfl (.app (.app (.app (.app .t1)))) (Zy (Zf ?_)))⟩)⟩
   revert h; refine Z01 fun h=>?_
   subst h
   exact ⟨_,(.cons (.agg rfl (.app (.app (.app (.app .t1)))) rfl) .nil),rfl⟩
structure Z0d where
  gIssuer:LI
  gGates:List (LI)
structure Zx where
  gSerial:Int
  gRides:Int
  gPrice:Int
  gAnchor:LI
  gSig:LI
abbrev Z0m:El (LI):=⟨32,fun x=>cells [b3' x],fun x=>by rw [cells_length]; rfl,fun x=>(Z0y Z9x Z52),by decide,(List.replicate 32 0)⟩
def Z5k (p0:Z0d) (p1:Zx):Option ((LI)×Bool) :=
 some (p0.gIssuer,true)
theorem Zdc {W:World} {r:(LI)×Bool} {p0:Z0d} {p1:Zx} {v0_0:Value} (h:Z5k p0 p1=some r) (A0_0:Z6m Z0m W v0_0 p0.gGates) :
    Calls Tryz.prog 101 [agg [b3' p0.gIssuer,.one (v0_0)],agg [.one (.int .i64 (p1.gSerial)),.one (.int .i64 (p1.gRides)),.one (.int .i64 (p1.gPrice)),b3' p1.gAnchor,b6' p1.gSig]].toArray W (Z3c W (.tuple #[agg [b3' r.1],.bool (r.2)])):=by
 unfold Z5k at h
 refine Za mo Z0l1 rfl ?_
 refine Z0<|Z1<|Zc (Z06 (s:=[b3' p0.gIssuer,.one (v0_0)]) rfl fun b1 u1=>Zc (Z06 (s:=[.one (.int .i64 (p1.gSerial)),.one (.int .i64 (p1.gRides)),.one (.int .i64 (p1.gPrice)),b3' p1.gAnchor,b6' p1.gSig]) rfl fun b2 u2=>Zc (Zu fun b3 u3=>Z8 rfl<|Z2<|Z0<|Z1<|Z4 _ (Z1v rfl)<|Z4 _ (Z00 (p:=[b3' p0.gIssuer]) rfl .t2 rfl)<|Zc (Zl (q:=[b3' p0.gIssuer]) rfl rfl rfl rfl rfl .here<|Z8 rfl<|Z2<|Zf ?_))))
 revert h; refine Z01 fun h=>?_
 subst h
 exact ⟨_,(.cons (.agg rfl .here rfl) (.cons (.tmp rfl) .nil)),rfl⟩
structure Zz where
  gCert:Zx
  gSig:LI
def Z4h (p0:Z0d) (p1:Zz):Option ((LI)×Bool) :=
 some (p0.gIssuer,true)
theorem Zc8 {W:World} {r:(LI)×Bool} {p0:Z0d} {p1:Zz} {v0_0:Value} (h:Z4h p0 p1=some r) (A0_0:Z6m Z0m W v0_0 p0.gGates) :
    Calls Tryz.prog 105 [agg [b3' p0.gIssuer,.one (v0_0)],agg [.one (.int .i64 (p1.gCert.gSerial)),.one (.int .i64 (p1.gCert.gRides)),.one (.int .i64 (p1.gCert.gPrice)),b3' p1.gCert.gAnchor,b6' p1.gCert.gSig,b6' p1.gSig]].toArray W (Z3c W (.tuple #[agg [b3' r.1],.bool (r.2)])):=by
 unfold Z4h at h
 refine Za mo Z0l5 rfl ?_
 refine Z0<|Z1<|Zc (Z06 (s:=[b3' p0.gIssuer,.one (v0_0)]) rfl fun b1 u1=>Zc (Z06 (s:=[.one (.int .i64 (p1.gCert.gSerial)),.one (.int .i64 (p1.gCert.gRides)),.one (.int .i64 (p1.gCert.gPrice)),b3' p1.gCert.gAnchor,b6' p1.gCert.gSig,b6' p1.gSig]) rfl fun b2 u2=>Zc (Zu fun b3 u3=>Z8 rfl<|Z2<|Z0<|Z1<|Z4 _ (Z1v rfl)<|Z4 _ (Z00 (p:=[b3' p0.gIssuer]) rfl .t2 rfl)<|Zc (Zl (q:=[b3' p0.gIssuer]) rfl rfl rfl rfl rfl .here<|Z8 rfl<|Z2<|Zf ?_))))
 revert h; refine Z01 fun h=>?_
 subst h
 exact ⟨_,(.cons (.agg rfl .here rfl) (.cons (.tmp rfl) .nil)),rfl⟩
def Z2r (p0:Int) (p1:Int) (p2:Int):Option Bool :=
 some ((decide (p0≥p1))&&(decide (p0<=p2)))
theorem Z58 {W:World} {r:Bool} {p0:Int} {p1:Int} {p2:Int} (h:Z2r p0 p1 p2=some r)  :
    Calls Tryz.prog 19 [.int .i64 (p0),.int .i64 (p1),.int .i64 (p2)].toArray W (Z3c W (.bool (r))):=by
 unfold Z2r at h
 refine Za mo ok19 rfl ?_
 refine Z0<|Z1<|Z8 rfl<|Z2<|Z0<|Z1<|Z8 rfl<|Z8 rfl<|Z4 _ (Zb rfl rfl rfl)<|Z8 rfl<|Zjm rfl rfl rfl (fun hg1=>Z27 rfl _ (Z04 rfl) (Z27 rfl _ (Z04 rfl) (Z27 rfl _ (Zb rfl rfl rfl) (Z28)))) (fun hg1=>rfl) rfl<|Z8 rfl<|Z2<|Zf ?_
 revert h; refine Z01 fun h=>?_
 subst h
 exact ⟨_,(.cons (.tmp rfl) .nil),rfl⟩
structure Zg where
  gCert:Zx
  gSig:LI
def Z36 (p0:Z0d) (p1:Zg):Option ((LI)×Bool) :=
 some (p0.gIssuer,true)
theorem Zac {W:World} {r:(LI)×Bool} {p0:Z0d} {p1:Zg} {v0_0:Value} (h:Z36 p0 p1=some r) (A0_0:Z6m Z0m W v0_0 p0.gGates) :
    Calls Tryz.prog 108 [agg [b3' p0.gIssuer,.one (v0_0)],agg [.one (.int .i64 (p1.gCert.gSerial)),.one (.int .i64 (p1.gCert.gRides)),.one (.int .i64 (p1.gCert.gPrice)),b3' p1.gCert.gAnchor,b6' p1.gCert.gSig,b6' p1.gSig]].toArray W (Z3c W (.tuple #[agg [b3' r.1],.bool (r.2)])):=by
 unfold Z36 at h
 refine Za mo Z0l8 rfl ?_
 refine Z0<|Z1<|Zc (Z06 (s:=[b3' p0.gIssuer,.one (v0_0)]) rfl fun b1 u1=>Zc (Z06 (s:=[.one (.int .i64 (p1.gCert.gSerial)),.one (.int .i64 (p1.gCert.gRides)),.one (.int .i64 (p1.gCert.gPrice)),b3' p1.gCert.gAnchor,b6' p1.gCert.gSig,b6' p1.gSig]) rfl fun b2 u2=>Zc (Zu fun b3 u3=>Z8 rfl<|Z2<|Z0<|Z1<|Z4 _ (Z1v rfl)<|Z4 _ (Z00 (p:=[b3' p0.gIssuer]) rfl .t2 rfl)<|Zc (Zl (q:=[b3' p0.gIssuer]) rfl rfl rfl rfl rfl .here<|Z8 rfl<|Z2<|Zf ?_))))
 revert h; refine Z01 fun h=>?_
 subst h
 exact ⟨_,(.cons (.agg rfl .here rfl) (.cons (.tmp rfl) .nil)),rfl⟩
structure Z05 where
  gFloor:Int
  gSig:LI
def Zf0:Z05:=⟨0,(List.replicate 64 0)⟩
def Z53 (p0:Z0d) (p1:Z05):Option ((LI)×Bool) :=
 some (p0.gIssuer,true)
theorem Zcx {W:World} {r:(LI)×Bool} {p0:Z0d} {p1:Z05} {v0_0:Value} (h:Z53 p0 p1=some r) (A0_0:Z6m Z0m W v0_0 p0.gGates) :
    Calls Tryz.prog 121 [agg [b3' p0.gIssuer,.one (v0_0)],agg [.one (.int .i64 (p1.gFloor)),b6' p1.gSig]].toArray W (Z3c W (.tuple #[agg [b3' r.1],.bool (r.2)])):=by
 unfold Z53 at h
 refine Za mo Z0ll rfl ?_
 refine Z0<|Z1<|Zc (Z06 (s:=[b3' p0.gIssuer,.one (v0_0)]) rfl fun b1 u1=>Zc (Z06 (s:=[.one (.int .i64 (p1.gFloor)),b6' p1.gSig]) rfl fun b2 u2=>Zc (Zu fun b3 u3=>Z8 rfl<|Z2<|Z0<|Z1<|Z4 _ (Z1v rfl)<|Z4 _ (Z00 (p:=[b3' p0.gIssuer]) rfl .t2 rfl)<|Zc (Zl (q:=[b3' p0.gIssuer]) rfl rfl rfl rfl rfl .here<|Z8 rfl<|Z2<|Zf ?_))))
 revert h; refine Z01 fun h=>?_
 subst h
 exact ⟨_,(.cons (.agg rfl .here rfl) (.cons (.tmp rfl) .nil)),rfl⟩
structure Z0q where
  gGates:Int
  gWallets:Int
  gRows:Int
  gFlash:Int
  gSerials:Int
  gSecret:LI
def Zce (p0:Z0q):Option Int :=
 opt (Z2r p0.gGates 1 16) fun y1 =>
 chk (imp y1 ((Z2r p0.gWallets 1 8).isSome)) <|
 opt (Z2r p0.gRows 1 256) fun y2 =>
 chk (imp y2 ((Z2r p0.gFlash 512 1048576).isSome)) <|
 chk (imp (!((!(y1&&((Z2r p0.gWallets 1 8).getD false)))||(!(y2&&((Z2r p0.gFlash 512 1048576).getD false))))) ((Z2r p0.gSerials 1 65535).isSome)) <|
 br ((((!(y1&&((Z2r p0.gWallets 1 8).getD false)))||(!(y2&&((Z2r p0.gFlash 512 1048576).getD false))))||(!((Z2r p0.gSerials 1 65535).getD false)))) (
 some 4
 ) (
 some 0
 )
theorem Zgw {W:World} {r:Int} {p0:Z0q} (h:Zce p0=some r)  :
    Calls Tryz.prog 6 [agg [.one (.int .i64 (p0.gGates)),.one (.int .i64 (p0.gWallets)),.one (.int .i64 (p0.gRows)),.one (.int .i64 (p0.gFlash)),.one (.int .i64 (p0.gSerials)),b3' p0.gSecret]].toArray W (Z3c W (.int .i64 (r))):=by
 unfold Zce at h
 refine Za mo ok6 rfl ?_
 refine Z0<|Z1<|Zc (Z06 (s:=[.one (.int .i64 (p0.gGates)),.one (.int .i64 (p0.gWallets)),.one (.int .i64 (p0.gRows)),.one (.int .i64 (p0.gFlash)),.one (.int .i64 (p0.gSerials)),b3' p0.gSecret]) rfl fun b1 u1=>Z8 rfl<|Z2<|Z0<|oH h fun y1 f1 h=>cH h fun c1 h=>Z1<|Z4 _ (Z1v rfl)<|Z4 _ (Z0p rfl .here rfl)<|Z4 _ (Z1d rfl (Z58 f1))<|Z8 rfl<|Zjm rfl rfl rfl (fun hg1=>Z27 rfl _ (Z1v rfl) (Z27 rfl _ (Z0p rfl .here rfl) (Z27 rfl _ (Z0a rfl (fun _ _=>Z58 (getD_some (z:=false) (Zrv c1 hg1)))) (Z28)))) (fun hg1=>rfl) rfl<|Z8 rfl<|Z2<|Z0<|oH h fun y2 f2 h=>cH h fun c2 h=>Z1<|Z4 _ (Z1v rfl)<|Z4 _ (Z0p rfl .here rfl)<|Z4 _ (Z1d rfl (Z58 f2))<|Z8 rfl<|Zjm rfl rfl rfl (fun hg1=>Z27 rfl _ (Z1v rfl) (Z27 rfl _ (Z0p rfl .here rfl) (Z27 rfl _ (Z0a rfl (fun _ _=>Z58 (getD_some (z:=false) (Zrv c2 hg1)))) (Z28)))) (fun hg1=>rfl) rfl<|Z8 rfl<|Z2<|Z0<|Z0<|cH h fun c3 h=>Z1<|Z8 rfl<|Z4 _ (Zmv rfl rfl)<|Z8 rfl<|Zex rfl rfl rfl (fun hg1=>Z27 rfl _ (Z04 rfl) (Z27 rfl _ (Zmv rfl rfl) (Z28))) (fun hg1=>rfl) rfl<|Z8 rfl<|Zex rfl rfl rfl (fun hg1=>Z27 rfl _ (Z1v rfl) (Z27 rfl _ (Z0p rfl .here rfl) (Z27 rfl _ (Z0a rfl (fun _ _=>Z58 (getD_some (z:=false) (Zuz c3 hg1)))) (Z27 rfl _ (Zmv rfl rfl) (Z28))))) (fun hg1=>rfl) rfl<|Z2<|Z0r h rfl (fun h=>?_) (fun h=>?_))
 ·refine Z0<|Z1<|Z8 rfl<|Z2<|Zf ?_
  revert h; refine Z01 fun h=>?_
  subst h
  exact ⟨_,(.cons (.tmp rfl) .nil),rfl⟩
 ·refine Zn<|Z0<|Z1<|Z8 rfl<|Z2<|Zf ?_
  revert h; refine Z01 fun h=>?_
  subst h
  exact ⟨_,(.cons (.tmp rfl) .nil),rfl⟩
def Zei (p0:LI) (p1:LI):OL :=
 opt (Z5u p0 p1 64) fun y1 =>
 some y1
theorem Z7r {W:World} {r:(LI)} {p0:LI} {p1:LI} {v0:Value} {v1:Value} (h:Zei p0 p1=some r) (hG:Globs W) (A0:Z6m (El.int .u8) W v0 p0) (A1:Z6m (El.int .u8) W v1 p1) :
    Calls Tryz.prog 124 [v0,v1].toArray W (Z3c W (agg [b3' r])):=by
 unfold Zei at h
 refine Za mo Z0lo rfl ?_
 refine Z0<|Z1<|Zc (Zu fun b1 u1=>Z2<|Z0<|oH h fun y1 f1 h=>Z1<|Zc (Zk rfl (fun w hw=>Zn3 (n:=64) (f:=11) (g:=244)) fun v4 o1 R1=>?_))
 obtain ⟨b2,U7,b3,U9,b4,U11,rfl,rfl⟩:=R1
 refine Z8 rfl<|Z8 rfl<|Zc (Z94 rfl rfl rfl (fun w hw=>Zdw f1 (hG.at hw (by simp)) ((Z1m A0 Z1u) w hw) ((Z1m A1 Z1u) w hw) (Zjs .here w hw) (Zjs .t1 w hw) (Zjs .t2 w hw))<|Zc (Zl (q:=[b3' y1]) rfl rfl rfl rfl rfl .t3<|Z2<|Zf ?_))
 revert h; refine Z01 fun h=>?_
 subst h
 exact ⟨_,(.cons (.agg rfl .t3 rfl) .nil),rfl⟩
def Z9u (p0:LI) (p1:LI) (p2:Int) (k1:(LI)->Option ((LI)×Bool)) (k2:(LI)->(LI)->Int->Option ((LI)×Bool)) (l1:LI) (l2:LI) (i1:Int):Option ((LI)×Bool) :=
 br ((decide ((l1.length:Int)<p2))) (
 jn (fun (a1:LI)=>chk (decide ((l1.length+(tk a1 0 32).length)*1<=140737488355328)) <|
 bnd (l1++(tk a1 0 32)) fun l3 =>
 bnd (IntKind.wrap .u8 (i1+1)) fun z1 =>
 k2 l3 (tk a1 0 32) z1) fun k3=>opt (Z6t ([l2,p1,([i1]:LI)])) fun y1 =>
 opt (Zei (tk p0 0 32) y1) fun y2 =>
 k3 y2
 ) (
 k1 l1
 )
def Z6o (p0:LI) (p1:LI) (p2:Int) (k1:(LI)->Option ((LI)×Bool)):Nat->(LI)->(LI)->Int->Option ((LI)×Bool)
  | 0,_,_,_=>none
  | n+1,l1,l2,i1=>Z9u p0 p1 p2 k1 (Z6o p0 p1 p2 k1 n) l1 l2 i1
def Zeh (p0:LI) (p1:LI) (p2:Int):Option ((LI)×Bool) :=
 br (((decide (p2<0))||(decide (p2>8160)))) (
 some ([],false)
 ) (
 bnd (IntKind.wrap .i64 (p2+32)) fun z1 =>
 chk (mkB 1 0 z1) <|
 jn (fun (l1:LI)=>chk (Zki 0 p2 l1.length) <|
 some ((l1.take (p2).toNat),true)) fun k1=>Z6o p0 p1 p2 k1 big (List.replicate 0 0:LI) [] 1
 )
theorem Zm0 {W:World} {r:(LI)×Bool} {p0:LI} {p1:LI} {p2:Int} {v1:Value} (h:Zeh p0 p1 p2=some r) (hG:Globs W) (A1:Z6m (El.int .u8) W v1 p1) :
    Calls Tryz.prog 60 [agg [b3' p0],v1,.int .i64 (p2)].toArray W (Z8e W [] (fun v Ms=>∃ (u0:Value) (M1:List Ze),v = .tuple #[u0,.bool (r.2)]/\Ms = [.all M1]/\Z09 (El.int .u8) u0 M1 r.1)):=by
 unfold Zeh at h
 refine Zs mo ok60 rfl (Zez _) ?_
 refine Z0<|Z1<|Zc (Z06 (s:=[b3' p0]) rfl fun b1 hb1=>Z8 rfl<|Z8 rfl<|Z2<|Z0<|Z0<|Z1<|Z8 rfl<|Z4 _ (Zb rfl rfl rfl)<|Z8 rfl<|Zex rfl rfl rfl (fun hg1=>Z27 rfl _ (Z04 rfl) (Z27 rfl _ (Zb rfl rfl rfl) (Z28))) (fun hg1=>rfl) rfl<|Z2<|Z0r h rfl (fun h=>?_) (fun h=>?_))
 ·refine Z0<|Z1<|Z8 rfl<|Z8 rfl<|Z2<|Zf ?_
  revert h; refine Z01 fun h=>?_
  subst h
  exact ⟨_,_,(.cons (.tmp rfl) (.cons (.tmp rfl) .nil)),(.no .nil),⟨_,rfl,⟨(.slice none 0 0),[],rfl,rfl,Zao⟩⟩⟩
 ·refine Zn<|Z0<|bH h fun z1 e1 h=>cH h fun c1 h=>Z1<|Z8 rfl<|Z4 _ (iz e1 (Zb rfl rfl rfl))<|Zc (Zf4 (E:=(El.int .u8)) rfl rfl rfl c1 fun v9 w1 O1=>Z8 rfl<|Z2<|Z0<|Z1<|Z8 rfl<|Z2<|Z0<|Z0<|Z1<|Z8 rfl<|Z2<|jH h fun k1 q1 h=>Zo (G:=fun t m=>∃ (l1:LI) (v165:Value) (w2:List Ze),k1 l1=some r/\Z09 (El.int .u8) v165 w2 l1/\Fit [(2,.int .i64 (p2)),(8,v165)] (ck b1 23 [b3' p0]::(w2 ++ [])) t m) ?_ ?_)
  ·refine Zd<|Z07 (fun n1 t m=>∃ (l2:LI) (l3:LI) (i1:Int) (v266:Value) (w3:List Ze) (v270:Value) (w4:List Ze),Z6o p0 p1 p2 k1 n1 l2 l3 i1=some r/\Z09 (El.int .u8) v266 w3 l2/\Z09 (El.int .u8) v270 w4 l3/\Fit [(1,v1),(2,.int .i64 (p2)),(3,pt' b1),(8,v266),(9,v270),(10,.int .u8 (i1))] (ck b1 23 [b3' p0]::(w3++(w4 ++ []))) t m) big ?_ ?_
   ·exact ⟨(List.replicate 0 0:LI),[],1,v9,w1,(.slice none 0 0),[],h,O1,Zao,⟨⟨rfl,rfl,rfl,rfl,rfl,rfl,trivial⟩,(.one (.app .here) (.all .here (.no .nil)))⟩⟩
   ·rintro n1 t m ⟨l2,l3,i1,v266,w3,v270,w4,h,O2,O3,hF⟩
    refine Zm hF ?_
    clear hF
    rcases n1 with _ | n1
    · exact Z1r h
    have h:Z9u p0 p1 p2 k1 (Z6o p0 p1 p2 k1 n1) l2 l3 i1=some r:=h
    unfold Z9u at h
    obtain ⟨k2,q2⟩ : ∃ k,k=Z6o p0 p1 p2 k1 n1:=⟨_,rfl⟩
    try rw [<- q2] at h
    refine Z0<|Z0<|Z1<|Z8 rfl<|Z4 _ (Z5j rfl (Shp.own O2))<|Z8 rfl<|Z4 _ (Zb rfl rfl rfl)<|Z2<|Z0r h rfl (fun h=>?_) (fun h=>?_)
    ·refine Zn<|Z0<|Zd<|Z0<|jH h fun k3 q3 h=>Zo (G:=fun t m=>∃ (a1:LI) (b2:Nat),k3 a1=some r/\Fit [(1,v1),(2,.int .i64 (p2)),(3,pt' b1),(8,v266),(10,.int .u8 (i1)),(11,pt' b2)] (ck b2 23 [b3' a1]::(ck b1 23 [b3' p0]::(w3 ++ []))) t m) ?_ ?_
     ·refine oH h fun y1 f1 h=>oH h fun y2 f2 h=>Zv<|Z6 _ (Z88 rfl .no .no .no (by simp) (by decide))<|Z6 _ (Z04 rfl)<|Z6 _ (Z04 rfl)<|Z6 _ (Z04 rfl)<|Zey (Z54 (E:=(El.int .u8)) (xs:=[i1]) (.one rfl rfl rfl BdR.nil) (.cons (p:=[.one (.int .u8 (i1))]) rfl .nil) rfl fun v298 w5 O4=>⟨(by repeat (first | exact Sup.refl _ | apply Sup.cons | apply Sup.app)),?_⟩) (Zu fun b3 hb2=>⟨(by repeat (first | exact Sup.refl _ | apply Sup.cons | apply Sup.app)),?_⟩)
      ·refine Zey (Z54 (E:=El.sl) (xs:=[unS v270,unS v1,unS v298]) (.one rfl (Z9i.cells (Z09.isSl O3)) rfl (.one rfl (Z9i.cells (Shp.isSl (Shp.rd A1))) rfl (.one rfl (Z9i.cells (Z09.isSl O4)) rfl BdR.nil))) (.cons (p:=[.one v270]) (Z26 (Z09.isSl O3)) (.cons (p:=[.one v1]) (Z26 (Shp.isSl (Shp.rd A1))) (.cons (p:=[.one v298]) (Z26 (Z09.isSl O4)) .nil))) rfl fun v301 w6 O5=>⟨(by repeat (first | exact Sup.refl _ | apply Sup.cons | apply Sup.app)),?_⟩) (Zu fun b3 hb2=>⟨(by repeat (first | exact Sup.refl _ | apply Sup.cons | apply Sup.app)),?_⟩)
       ·refine Zey (Zk rfl (fun w hw=>Z30  f1 (Z0b O5 .here w hw) (.cons (Z29 ((Z0b O3 (.app (.app (.there (.app .here))))) w hw)) (.cons (Z29 ((Z1m A1 Z1u) w hw)) (.cons (Z29 ((Z0b O4 (.app .here)) w hw)) .nil)))) fun v305 o1 R1=>?_) (Zu fun b3 hb2=>?_)
        ·obtain ⟨_,w7,rfl,rfl,O6⟩:=R1
         refine ⟨(by repeat (first | exact Sup.refl _ | apply Sup.cons | apply Sup.app)),Zey (ef_q _ (Z0a rfl (fun w hw=>Z7r f2 (hG.at hw (by simp)) ((Z1t (s:=[b3' p0]) (N:=32) (k:=.u8) (base:=0) (lo:=0) (hi:=32) (mz:=32) (.app (.app (.app .here))) rfl (by decide)) w hw) ((Z0b O6 .here) w hw))) ⟨(by repeat (first | exact Sup.refl _ | apply Sup.cons | apply Sup.app)),?_⟩) (Zu fun b3 hb2=>⟨(by repeat (first | exact Sup.refl _ | apply Sup.cons | apply Sup.app)),?_⟩)⟩
         ·exact Z2u (Zu fun b3 hb2=>⟨(by repeat (first | exact Sup.refl _ | apply Sup.cons | apply Sup.app)),Z1q rfl (Zl (q:=[b3' y2]) rfl rfl rfl rfl rfl .here (Zy (⟨y2,b3,h,⟨⟨rfl,rfl,rfl,rfl,rfl,rfl,trivial⟩,(.o (.one (.app (.app (.app .here))) (.all (.app (.app (.app .here))) .nil)))⟩⟩)))⟩)
         ·exact Za7 _ (Z0a rfl (fun w hw=>Z7r f2 (hG.at hw (by simp)) ((Z1t (s:=[b3' p0]) (N:=32) (k:=.u8) (base:=0) (lo:=0) (hi:=32) (mz:=32) (.there (.app (.app (.app .here)))) rfl (by decide)) w hw) ((Z0b O6 .t1) w hw))) (Z1q rfl (Zl (q:=[b3' y2]) rfl rfl rfl rfl rfl .here (Zy (⟨y2,b3,h,⟨⟨rfl,rfl,rfl,rfl,rfl,rfl,trivial⟩,(.o (.one (.app (.app (.app .here))) (.all (.app (.app (.app .here))) .nil)))⟩⟩)))) (by repeat (first | exact Sup.refl _ | apply Sup.cons | apply Sup.app))
        ·refine ⟨(by repeat (first | exact Sup.refl _ | apply Sup.cons | apply Sup.app)),Z2u (Zk rfl (fun w hw=>Z30  f1 (Z0b O5 .t1 w hw) (.cons (Z29 ((Z0b O3 (.there (.app (.app (.there (.app .here)))))) w hw)) (.cons (Z29 ((Z1m A1 Z1u) w hw)) (.cons (Z29 ((Z0b O4 (.there (.app .here))) w hw)) .nil)))) fun v305 o1 R1=>?_)⟩
         obtain ⟨_,w7,rfl,rfl,O6⟩:=R1
         exact ⟨(by repeat (first | exact Sup.refl _ | apply Sup.cons | apply Sup.app)),Za7 _ (Z0a rfl (fun w hw=>Z7r f2 (hG.at hw (by simp)) ((Z1t (s:=[b3' p0]) (N:=32) (k:=.u8) (base:=0) (lo:=0) (hi:=32) (mz:=32) (.app (.there (.app (.app .here)))) rfl (by decide)) w hw) ((Z0b O6 .here) w hw))) (Z1q rfl (Zl (q:=[b3' y2]) rfl rfl rfl rfl rfl (.app .here) (Zy (⟨y2,b3,h,⟨⟨rfl,rfl,rfl,rfl,rfl,rfl,trivial⟩,(.one (.app .here) (.one (.app (.app (.app .here))) (.all (.app (.app (.app .here))) .nil)))⟩⟩)))) (by repeat (first | exact Sup.refl _ | apply Sup.cons | apply Sup.app))⟩
       ·refine Z2u (Z54 (E:=El.sl) (xs:=[unS v270,unS v1,unS v298]) (.one rfl (Z9i.cells (Z09.isSl O3)) rfl (.one rfl (Z9i.cells (Shp.isSl (Shp.rd A1))) rfl (.one rfl (Z9i.cells (Z09.isSl O4)) rfl BdR.nil))) (.cons (p:=[.one v270]) (Z26 (Z09.isSl O3)) (.cons (p:=[.one v1]) (Z26 (Shp.isSl (Shp.rd A1))) (.cons (p:=[.one v298]) (Z26 (Z09.isSl O4)) .nil))) rfl fun v301 w6 O5=>⟨(by repeat (first | exact Sup.refl _ | apply Sup.cons | apply Sup.app)),Z2u (Zk rfl (fun w hw=>Z30  f1 (Z0b O5 .here w hw) (.cons (Z29 ((Z0b O3 (.app (.there (.app (.there (.app .here)))))) w hw)) (.cons (Z29 ((Z1m A1 Z1u) w hw)) (.cons (Z29 ((Z0b O4 (.app .t1)) w hw)) .nil)))) fun v305 o1 R1=>?_)⟩)
        obtain ⟨_,w7,rfl,rfl,O6⟩:=R1
        exact ⟨(by repeat (first | exact Sup.refl _ | apply Sup.cons | apply Sup.app)),Za7 _ (Z0a rfl (fun w hw=>Z7r f2 (hG.at hw (by simp)) ((Z1t (s:=[b3' p0]) (N:=32) (k:=.u8) (base:=0) (lo:=0) (hi:=32) (mz:=32) (.app (.app (.there (.app .here)))) rfl (by decide)) w hw) ((Z0b O6 .here) w hw))) (Z1q rfl (Zl (q:=[b3' y2]) rfl rfl rfl rfl rfl (.app (.app .here)) (Zy (⟨y2,b3,h,⟨⟨rfl,rfl,rfl,rfl,rfl,rfl,trivial⟩,(.one (.app (.app .here)) (.one (.app (.app (.app .here))) (.all (.app (.app (.app .here))) .nil)))⟩⟩)))) (by repeat (first | exact Sup.refl _ | apply Sup.cons | apply Sup.app))⟩
      ·refine Z2u (Z54 (E:=(El.int .u8)) (xs:=[i1]) (.one rfl rfl rfl BdR.nil) (.cons (p:=[.one (.int .u8 (i1))]) rfl .nil) rfl fun v298 w5 O4=>⟨(by repeat (first | exact Sup.refl _ | apply Sup.cons | apply Sup.app)),Z2u (Z54 (E:=El.sl) (xs:=[unS v270,unS v1,unS v298]) (.one rfl (Z9i.cells (Z09.isSl O3)) rfl (.one rfl (Z9i.cells (Shp.isSl (Shp.rd A1))) rfl (.one rfl (Z9i.cells (Z09.isSl O4)) rfl BdR.nil))) (.cons (p:=[.one v270]) (Z26 (Z09.isSl O3)) (.cons (p:=[.one v1]) (Z26 (Shp.isSl (Shp.rd A1))) (.cons (p:=[.one v298]) (Z26 (Z09.isSl O4)) .nil))) rfl fun v301 w6 O5=>⟨(by repeat (first | exact Sup.refl _ | apply Sup.cons | apply Sup.app)),Z2u (Zk rfl (fun w hw=>Z30  f1 (Z0b O5 .here w hw) (.cons (Z29 ((Z0b O3 (.app (.app (.there (.there (.app .here)))))) w hw)) (.cons (Z29 ((Z1m A1 Z1u) w hw)) (.cons (Z29 ((Z0b O4 (.app .here)) w hw)) .nil)))) fun v305 o1 R1=>?_)⟩)⟩)
       obtain ⟨_,w7,rfl,rfl,O6⟩:=R1
       exact ⟨(by repeat (first | exact Sup.refl _ | apply Sup.cons | apply Sup.app)),Za7 _ (Z0a rfl (fun w hw=>Z7r f2 (hG.at hw (by simp)) ((Z1t (s:=[b3' p0]) (N:=32) (k:=.u8) (base:=0) (lo:=0) (hi:=32) (mz:=32) (.app (.app (.app .t1))) rfl (by decide)) w hw) ((Z0b O6 .here) w hw))) (Z1q rfl (Zl (q:=[b3' y2]) rfl rfl rfl rfl rfl (.app (.app (.app .here))) (Zy (⟨y2,b3,h,⟨⟨rfl,rfl,rfl,rfl,rfl,rfl,trivial⟩,(.one (.app (.app (.app .here))) (.one (.app (.app (.app .here))) (.all (.app (.app (.app .here))) .nil)))⟩⟩)))) (by repeat (first | exact Sup.refl _ | apply Sup.cons | apply Sup.app))⟩
     ·rintro t m ⟨a1,b2,h,hF⟩
      refine Zm hF ?_
      clear hF
      subst q3
      refine Z0<|Z1<|Z4 _ (Z88 rfl .no .no .no (by simp) (by decide))<|Z8 rfl<|Z2<|cH h fun c2 h=>bH h fun l4 g1 h=>Z1<|Z8 rfl<|Z8 rfl<|Zc (Z9r (E:=(El.int .u8)) g1 rfl O2 .t2 rfl (Z1t (s:=[b3' a1]) (N:=32) (k:=.u8) (base:=0) (lo:=0) (hi:=32) (mz:=32) .here rfl (by decide)) c2 fun v316 w8 O7=>Z8 rfl<|Z2<|bH h fun z2 e2 h=>Z1<|Z8 rfl<|Z4 _ (iz e2 (Zb rfl rfl rfl))<|Z8 rfl<|Z2 ?_)
      rw [q2] at h
      exact ⟨n1,Nat.lt_succ_self _,l4,(tk a1 0 32),z2,v316,w8,(.slice (some (Z1y b2 0 0 32 1)) (32-0) (32-0)),[ck b2 23 [b3' a1]],h,O7,(Zj6 (s:=[b3' a1]) (N:=32) (k:=.u8) (base:=0) (lo:=0) (hi:=32) (mz:=32) rfl (by decide)),⟨⟨rfl,rfl,rfl,rfl,rfl,rfl,trivial⟩,(.one (.app .t1) (.all .here (.oneA .here .nil)))⟩⟩
    ·exact Z0l _ rfl<|⟨l2,v266,w3,h,O2,⟨⟨rfl,rfl,trivial⟩,(.o (.all .here .nil))⟩⟩
  ·rintro t m ⟨l1,v165,w2,h,O8,hF⟩
   refine Zm hF ?_
   clear hF
   subst q1
   refine Z0<|cH h fun c3 h=>Z1<|Z8 rfl<|Z8 rfl<|Z8 rfl<|Z4 _ (Z0e8 O8 rfl (.yes rfl) (.yes rfl) c3)<|Z8 rfl<|Z8 rfl<|Z2<|Zf ?_
   revert h; refine Z01 fun h=>?_
   subst h
   exact ⟨_,_,(.cons (.tmp rfl) (.cons (.tmp rfl) .nil)),(.all .t1 .nil),⟨_,rfl,⟨(cap3 v165 (p2).toNat),w2,rfl,rfl,(Z01a (xs:=l1) O8 (Z08t c3))⟩⟩⟩
end Go.Proofs.YteefpkhngighgaaGreatDoor
namespace Go.Proofs.YteefpkhngighgaaGreatDoor
open Go Go.Sx Go.RowKit
open List (replicate)
open Go.IntKind (wrap)
set_option linter.all false
set_option maxHeartbeats 400000
set_option maxRecDepth 100000
def Zcc (p0:LI) (p1:ByteArray) (p2:Int):Option ((LI)×Bool) :=
 br ((((decide ((p1.size:Int)>32))||(decide (p2<0)))||(decide (p2>2147483647)))) (
 bnd (([0,0,0,0,0,0,0,0,0,0,0,0,0,0,0,0,0,0,0,0,0,0,0,0,0,0,0,0,0,0,0,0]:LI)) fun z1 =>
 some (z1,false)
 ) (
 bnd (wrap .u64 p2) fun z2 =>
 opt (Z0s z2) fun y1 =>
 opt (Z6t ([(strL p1),([0]:LI),y1])) fun y2 =>
 opt (Zeh p0 y2 32) fun y3 =>
 bnd (wr (replicate 32 0) 0 (y3.1.take 32)) fun l1 =>
 some (l1,true)
 )
theorem Zlz {W:World} {r:(LI)×Bool} {p0:LI} {p1:ByteArray} {p2:Int} (h:Zcc p0 p1 p2=some r) (hG:Globs W) :
    Calls Tryz.prog 23 [agg [b3' p0],.string (p1),.int .i64 (p2)].toArray W (Z3c W (.tuple #[agg [b3' r.1],.bool (r.2)])):=by
 unfold Zcc at h
 refine Za mo ok23 rfl ?_
 refine Z0<|Z1<|Zc (Z06 (s:=[b3' p0]) rfl fun b1 u1=>Zc (Zu fun b2 u2=>Z8 rfl<|Z2<|Z0<|Z0<|Z1<|Z8 rfl<|Z4 _ (Z0e5 rfl)<|Z4 _ (Zb rfl rfl rfl)<|Z8 rfl<|Zex rfl rfl rfl (fun hg1=>Z27 rfl _ (Z04 rfl) (Z27 rfl _ (Zb rfl rfl rfl) (Z28))) (fun hg1=>rfl) rfl<|Z8 rfl<|Zex rfl rfl rfl (fun hg1=>Z27 rfl _ (Z04 rfl) (Z27 rfl _ (Zb rfl rfl rfl) (Z28))) (fun hg1=>rfl) rfl<|Z2<|Z0r h rfl (fun h=>?_) (fun h=>?_)))
 ·refine Z0<|bH h fun z1 e1 h=>Z1<|Z4 _ (az (fun z=>agg [.ints .u8 32 z]) e1 (Zcd BdR.nil))<|Zc (Zl (q:=[b3' z1]) rfl rfl rfl rfl rfl .here<|Z8 rfl<|Z2<|Zf ?_)
  revert h; refine Z01 fun h=>?_
  subst h
  exact ⟨_,(.cons (.agg rfl .here rfl) (.cons (.tmp rfl) .nil)),rfl⟩
 ·refine Zn<|Z0<|bH h fun z2 e2 h=>oH h fun y1 f1 h=>oH h fun y2 f2 h=>Z1<|Z8 rfl<|Zc (Z091 rfl fun v9 w1 H11 Z12=>Zc (Z54 (E:=(El.int .u8)) (xs:=[0]) (.one rfl rfl rfl BdR.nil) (.cons (p:=[.one (.int .u8 (0))]) rfl .nil) rfl fun v13 w2 O1=>Z8 rfl<|Z4 _ (iz e2 (Z6x rfl))<|Zc (Zk rfl (fun w hw=>Z1x  f1 ) fun v18 o1 R1=>?_)))
  obtain ⟨_,w3,rfl,rfl,O2⟩:=R1
  refine Zc (Z54 (E:=El.sl) (xs:=[unS v9,unS v13,unS v18]) (.one rfl (Z9i.cells (Shp.isSl Z12)) rfl (.one rfl (Z9i.cells (Z09.isSl O1)) rfl (.one rfl (Z9i.cells (Z09.isSl O2)) rfl BdR.nil))) (.cons (p:=[.one v9]) (Z26 (Shp.isSl Z12)) (.cons (p:=[.one v13]) (Z26 (Z09.isSl O1)) (.cons (p:=[.one v18]) (Z26 (Z09.isSl O2)) .nil))) rfl fun v23 w4 O3=>Zc (Zk rfl (fun w hw=>Z30  f2 (Z0b O3 .here w hw) (.cons (Z29 ((Zyn H11 (.app (.app (.app .here)))) w hw)) (.cons (Z29 ((Z0b O1 (.app (.app .here))) w hw)) (.cons (Z29 ((Z0b O2 (.app .here)) w hw)) .nil)))) fun v27 o2 R2=>?_))
  obtain ⟨_,w5,rfl,rfl,O4⟩:=R2
  refine Z8 rfl<|Z2<|Z0<|oH h fun y3 f3 h=>Z1<|Z4 _ (Z00 (p:=[b3' p0]) rfl (.app (.app (.app (.app (.app .t1))))) rfl)<|Z8 rfl<|Zc (Zk rfl (fun w hw=>Zm0  f3 (hG.at hw (by simp)) ((Z0b O4 .here) w hw)) fun v34 o3 R3=>?_)
  obtain ⟨v36,w6,rfl,rfl,O5⟩:=R3
  refine Z8 rfl<|Z4 _ (Z17 rfl rfl)<|Z4 _ (Z17 rfl rfl)<|Z8 rfl<|Z8 rfl<|Z2<|Z0<|Z1<|Zc (Zu fun b3 u3=>Z2<|Z0<|bH h fun l1 g1 h=>Z1<|Z4 _ (Z88 rfl .no .no .no (by simp) (by decide))<|Z8 rfl<|Zc (Zf3 (q:=[b3' l1]) (lo:=0) (hi:=32) (mz:=32) (base:=0) (cpy0 g1) rfl rfl (Z0b O5 .t1) rfl (by decide) rfl .here<|Z2<|Z0<|Z1<|Z4 _ (Z00 (p:=[b3' l1]) rfl .here rfl)<|Zc (Zl (q:=[b3' l1]) rfl rfl rfl rfl rfl (.there (.app (.app (.app (.app (.app (.app .here)))))))<|Z8 rfl<|Z2<|Zf ?_)))
  revert h; refine Z01 fun h=>?_
  subst h
  exact ⟨_,(.cons (.agg rfl (.there (.app (.app (.app (.app (.app (.app .here))))))) rfl) (.cons (.tmp rfl) .nil)),rfl⟩
def Z9y (p0:Z0q) (p1:Int):Option ((LI)×Bool) :=
 opt (Zce p0) fun y1 =>
 chk (imp (!(y1 != 0)) ((Z2r p1 0 (wrap .i64 (p0.gGates+p0.gWallets))).isSome)) <|
 br (((y1 != 0)||(!((Z2r p1 0 (wrap .i64 (p0.gGates+p0.gWallets))).getD false)))) (
 bnd (([0,0,0,0,0,0,0,0,0,0,0,0,0,0,0,0,0,0,0,0,0,0,0,0,0,0,0,0,0,0,0,0]:LI)) fun z1 =>
 some (z1,false)
 ) (
 opt (Zcc p0.gSecret (⟨#[110,111,100,101]⟩:ByteArray) p1) fun y2 =>
 some (y2.1,y2.2)
 )
theorem Zdy {W:World} {r:(LI)×Bool} {p0:Z0q} {p1:Int} (h:Z9y p0 p1=some r) (hG:Globs W) :
    Calls Tryz.prog 8 [agg [.one (.int .i64 (p0.gGates)),.one (.int .i64 (p0.gWallets)),.one (.int .i64 (p0.gRows)),.one (.int .i64 (p0.gFlash)),.one (.int .i64 (p0.gSerials)),b3' p0.gSecret],.int .i64 (p1)].toArray W (Z3c W (.tuple #[agg [b3' r.1],.bool (r.2)])):=by
 unfold Z9y at h
 refine Za mo ok8 rfl ?_
 refine Z0<|Z1<|Zc (Z06 (s:=[.one (.int .i64 (p0.gGates)),.one (.int .i64 (p0.gWallets)),.one (.int .i64 (p0.gRows)),.one (.int .i64 (p0.gFlash)),.one (.int .i64 (p0.gSerials)),b3' p0.gSecret]) rfl fun b1 u1=>Zc (Zu fun b2 u2=>Z8 rfl<|Z2<|Z0<|Z0<|oH h fun y1 f1 h=>cH h fun c1 h=>Z1<|Z4 _ (Z00 (p:=[.one (.int .i64 (p0.gGates)),.one (.int .i64 (p0.gWallets)),.one (.int .i64 (p0.gRows)),.one (.int .i64 (p0.gFlash)),.one (.int .i64 (p0.gSerials)),b3' p0.gSecret]) rfl .t1 rfl)<|Z4 _ (Z1d rfl (Zgw f1))<|Z4 _ (Zb rfl rfl rfl)<|Z8 rfl<|Zex rfl rfl rfl (fun hg1=>Z27 rfl _ (Z04 rfl) (Z27 rfl _ (Z1v rfl) (Z27 rfl _ (Z0p rfl .t1 rfl) (Z27 rfl _ (Z1v rfl) (Z27 rfl _ (Z0p rfl .t1 rfl) (Z27 rfl _ (iz rfl (Zb rfl rfl rfl)) (Z27 rfl _ (Z0a rfl (fun _ _=>Z58 (getD_some (z:=false) (Zuz c1 hg1)))) (Z27 rfl _ (Zmv rfl rfl) (Z28))))))))) (fun hg1=>rfl) rfl<|Z2<|Z0r h rfl (fun h=>?_) (fun h=>?_)))
 ·refine Z0<|bH h fun z1 e1 h=>Z1<|Z4 _ (az (fun z=>agg [.ints .u8 32 z]) e1 (Zcd BdR.nil))<|Zc (Zl (q:=[b3' z1]) rfl rfl rfl rfl rfl .here<|Z8 rfl<|Z2<|Zf ?_)
  revert h; refine Z01 fun h=>?_
  subst h
  exact ⟨_,(.cons (.agg rfl .here rfl) (.cons (.tmp rfl) .nil)),rfl⟩
 ·refine Zn<|Z0<|oH h fun y2 f2 h=>Z1<|Z4 _ (Z1v rfl)<|Z4 _ (Z00 (p:=[b3' p0.gSecret]) rfl .t1 rfl)<|Z8 rfl<|Z4 _ (Z0a rfl (fun w hw=>Zlz (p1:=(⟨#[110,111,100,101]⟩:ByteArray)) f2 (hG.at hw (by simp))))<|Z4 _ (Z17 rfl rfl)<|Z4 _ (Z17 rfl rfl)<|Zc (Zl (q:=[b3' y2.1]) rfl rfl rfl rfl rfl .here<|Z8 rfl<|Z2<|Zf ?_)
  revert h; refine Z01 fun h=>?_
  subst h
  exact ⟨_,(.cons (.agg rfl .here rfl) (.cons (.tmp rfl) .nil)),rfl⟩
structure Zw where
  gstate:LI
  gheld:LI
  ghave:Int
  glength:Int
def Zci:Option (Zw) :=
 some (⟨G_first,(replicate 128 0),0,0⟩:Zw)
theorem Zh2 {W:World} {r:Zw} (h:Zci=some r) (hG:Globs W) :
    Calls Tryz.prog 222 [].toArray W (Z8e W [] (fun v Ms=>∃ (b1:Nat) (T0:TypeId),v = pt' b1/\Ms = [.one (ck b1 T0 [u8' r.gstate,.ints .u8 128 (r.gheld),.one (.int .i64 (r.ghave)),.one (.int .u64 (r.glength))])])):=by
 unfold Zci at h
 refine Zs mo Z0mv rfl (Zez _) ?_
 refine Z0<|Z1<|Z8 rfl<|Z2<|Z0<|Z1<|Z4 _ (Zqh (o0:=0) (off:=0) rfl (hG.g2) (by simp) rfl)<|Z4 _ (Zcd (q:=[u8' G_first,.ints .u8 128 ((replicate 128 0)),.one (.int .i64 (0)),.one (.int .u64 (0))]) (.agg (z':=[u8' G_first,.ints .u8 128 ((replicate 128 0)),.one (.int .i64 (0)),.one (.int .u64 (0))]) rfl (by kernel_rfl) (by kernel_rfl) BdR.nil))<|Zc (Z06 (s:=[u8' G_first,.ints .u8 128 ((replicate 128 0)),.one (.int .i64 (0)),.one (.int .u64 (0))]) rfl fun b2 u1=>Z8 rfl<|Z2<|Zf ?_)
 revert h; refine Z01 fun h=>?_
 subst h
 exact ⟨_,_,(.cons (.tmp rfl) .nil),(.o .nil),⟨_,rfl,⟨b2,382,rfl,rfl⟩⟩⟩
def Z86 (p0:LI) (p1:Int):Option ((Bool×LI)) :=
 opt (Z4n) fun y1 =>
 bnd (wrap .i64 (Int.tdiv y1 8)) fun z1 =>
 br (((decide (p1<0))||(decide (p1>wrap .i64 ((p0.length:Int)-z1))))) (
 some (true,[])
 ) (
 bnd (wrap .i64 (p1+z1)) fun z2 =>
 chk (Zki p1 z2 p0.length) <|
 chk (decide (0<((p0.drop (p1).toNat).take ((z2).toNat-(p1).toNat)).length)) <|
 some (false,((p0.drop (p1).toNat).take ((z2).toNat-(p1).toNat)))
 )
theorem Zad {W:World} {r:(Bool×LI)} {p0:LI} {p1:Int} {v0:Value} (h:Z86 p0 p1=some r) (A0:Z6m (El.int .u8) W v0 p0) :
    Calls Tryz.prog 342 [v0,.int .i64 (p1)].toArray W (Z8e W [] (fun v Ms=>∃ (u0:Value),v=u0/\Ms = []/\Shp u0 (r.2).length/\Zt7 u0=r.1/\(∀ W,Z6m (El.int .u8) W v0 p0->Z6m (El.int .u8) W u0 r.2))):=by
 unfold Z86 at h
 refine Zs mo Z0ot rfl (Zez _) ?_
 refine Z0<|Z1<|Z8 rfl<|Z2<|Z0<|oH h fun y1 f1 h=>bH h fun z1 e1 h=>Z1<|Z4 _ (Z1d rfl (Z51 f1))<|Z4 _ (iz e1 (Zov rfl rfl (by decide)))<|Z8 rfl<|Z2<|Z0<|Z0<|Z1<|Z8 rfl<|Z4 _ (Zb rfl rfl rfl)<|Z8 rfl<|Zex rfl rfl rfl (fun hg1=>Z27 rfl _ (Z04 rfl) (Z27 rfl _ (Z04 rfl) (Z27 rfl _ (Z5j rfl (Shp.rd A0)) (Z27 rfl _ (Z04 rfl) (Z27 rfl _ (iz rfl (Zb rfl rfl rfl)) (Z27 rfl _ (Zb rfl rfl rfl) (Z28))))))) (fun hg1=>rfl) rfl<|Z2<|Z0r h rfl (fun h=>?_) (fun h=>?_)
 ·refine Z0<|Z1<|Z8 rfl<|Z2<|Zf ?_
  revert h; refine Z01 fun h=>?_
  subst h
  exact ⟨_,_,(.cons (.tmp rfl) .nil),.nil,⟨_,rfl,⟨(.slice none 0 0),rfl,rfl,Shp.nil,rfl,Zub⟩⟩⟩
 ·refine Zn<|Z0<|bH h fun z2 e2 h=>cH h fun c1 h=>Z1<|Z8 rfl<|Z8 rfl<|Z8 rfl<|Z8 rfl<|Z4 _ (iz e2 (Zb rfl rfl rfl))<|Z4 _ (Ztn (lz:=p1) (hz:=z2) rfl (Shp.rd A0) (.yes rfl) (.yes rfl) c1)<|Z8 rfl<|Z2<|Zf<|cH h fun c2 h=>?_
  revert h; refine Z01 fun h=>?_
  subst h
  exact ⟨_,_,(.cons (.tmp rfl) .nil),.nil,⟨_,rfl,⟨(Zed 1 v0 (p1).toNat (z2).toNat),rfl,rfl,(Shp.cut (Shp.rd A0) (lz:=p1) (hz:=z2) c1),(Shp.notnil (Shp.cut (Shp.rd A0) (lz:=p1) (hz:=z2) c1) c2),(fun W A0=>(Z078 A0 (lz:=p1) (hz:=z2) c1))⟩⟩⟩
def Z7h (y1:(Bool×LI)) (k1:Int->Option (Int×Bool)) (k2:Int->Int->Option (Int×Bool)) (i1:Int) (i2:Int):Option (Int×Bool) :=
 br ((decide (i2<(y1.2.length:Int)))) (
 chk (inB i2 y1.2.length) <|
 bnd (y1.2.getD (i2).toNat 0) fun z1 =>
 bnd (Z02 .u64 i1 8) fun z2 =>
 bnd (wrap .u64 z1) fun z3 =>
 bnd (Z7 .or .u64 z2 z3) fun z4 =>
 bnd (wrap .i64 (i2+1)) fun z5 =>
 k2 z4 z5
 ) (
 k1 i1
 )
def Z3r (y1:(Bool×LI)) (k1:Int->Option (Int×Bool)):Nat->Int->Int->Option (Int×Bool)
  | 0,_,_=>none
  | n+1,i1,i2=>Z7h y1 k1 (Z3r y1 k1 n) i1 i2
def Z9j (p0:LI) (p1:Int):Option (Int×Bool) :=
 opt (Z86 p0 p1) fun y1 =>
 jn (fun (i1:Int)=>some (i1,(!y1.1))) fun k1=>Z3r y1 k1 big 0 0
theorem Zf2 {W:World} {r:Int×Bool} {p0:LI} {p1:Int} {v0:Value} (h:Z9j p0 p1=some r) (A0:Z6m (El.int .u8) W v0 p0) :
    Calls Tryz.prog 300 [v0,.int .i64 (p1)].toArray W (Z3c W (.tuple #[.int .u64 (r.1),.bool (r.2)])):=by
 unfold Z9j at h
 refine Za mo Z0ny rfl ?_
 refine Z0<|Z1<|Z8 rfl<|Z8 rfl<|Z2<|Z0<|Z1<|Z8 rfl<|Z2<|Z0<|oH h fun y1 f1 h=>Z1<|Z8 rfl<|Z8 rfl<|Zc (Zk rfl (fun w hw=>Zad  f1 ((Z1m A0 Z1u) w hw)) fun v5 o1 R1=>?_)
 obtain ⟨_,rfl,rfl,P10,N8,H9⟩:=R1
 refine Z8 rfl<|Z2<|Z0<|Z0<|Z1<|Z8 rfl<|Z4 _ (Z5j rfl P10)<|Z8 rfl<|Z2<|jH h fun k1 q1 h=>Zo (G:=fun t m=>∃ (i1:Int),k1 i1=some r/\Fit [(6,.int .u64 (i1)),(7,v5)] [] t m) ?_ ?_
 ·refine Zd<|Z07 (fun n1 t m=>∃ (i2:Int) (i3:Int),Z3r y1 k1 n1 i2 i3=some r/\Fit [(6,.int .u64 (i2)),(7,v5),(13,v5),(14,.int .i64 ((y1.2.length:Int))),(15,.int .i64 (i3))] [] t m) big ?_ ?_
  ·exact ⟨0,0,h,⟨⟨rfl,rfl,rfl,rfl,rfl,trivial⟩,.nil⟩⟩
  ·rintro n1 t m ⟨i2,i3,h,hF⟩
   refine Zm hF ?_
   clear hF
   rcases n1 with _ | n1
   · exact Z1r h
   have h:Z7h y1 k1 (Z3r y1 k1 n1) i2 i3=some r:=h
   unfold Z7h at h
   obtain ⟨k2,q2⟩ : ∃ k,k=Z3r y1 k1 n1:=⟨_,rfl⟩
   try rw [<- q2] at h
   refine Z0<|Z1<|Z4 _ (Zb rfl rfl rfl)<|Z2<|Z0<|Z0r h rfl (fun h=>?_) (fun h=>?_)
   ·refine Zn<|Z0<|Zd<|Z0<|cH h fun c1 h=>bH h fun z1 e1 h=>Z1<|Z4 _ (Z7u rfl rfl P10 c1)<|Z4 _ (iz e1 (Zaq (E:=(El.int .u8)) (s:=[.one (.int .u8 (y1.2.getD (i3).toNat 0))]) rfl (Zs7 H9 (Z1m A0 Z1u)) (Z1i c1) rfl rfl))<|Z8 rfl<|Z2<|bH h fun z2 e2 h=>bH h fun z3 e3 h=>bH h fun z4 e4 h=>Z1<|Z8 rfl<|Z4 _ (iz e2 (Zm6 rfl rfl (by decide)))<|Z8 rfl<|Z4 _ (iz e3 (Z6x rfl))<|Z4 _ (iz e4 (Zb rfl rfl rfl))<|Z8 rfl<|Z2<|bH h fun z5 e5 h=>Z1<|Z4 _ (iz e5 (Zb rfl rfl rfl))<|Z8 rfl<|Z2 ?_
    rw [q2] at h
    exact ⟨n1,Nat.lt_succ_self _,z4,z5,h,⟨⟨rfl,rfl,rfl,rfl,rfl,trivial⟩,.nil⟩⟩
   ·exact Z0l _ rfl<|⟨i2,h,⟨⟨rfl,rfl,trivial⟩,.nil⟩⟩
 ·rintro t m ⟨i1,h,hF⟩
  refine Zm hF ?_
  clear hF
  subst q1
  refine Z0<|Z1<|Z8 rfl<|Z8 rfl<|Z4 _ (Zyg rfl P10 N8)<|Z8 rfl<|Z8 rfl<|Z2<|Zf ?_
  revert h; refine Z01 fun h=>?_
  subst h
  exact ⟨_,(.cons (.tmp rfl) (.cons (.tmp rfl) .nil)),rfl⟩
def Z48 (p0:Int) (p1:Int):Option Int :=
 opt (Z4n) fun y1 =>
 bnd (wrap .u64 p1) fun z1 =>
 bnd (wrap .i64 (y1-1)) fun z2 =>
 bnd (wrap .u64 z2) fun z3 =>
 bnd (Z7 .and .u64 z1 z3) fun z4 =>
 chk (decide (0<=z4)) <|
 bnd (Zr .u64 p0 z4) fun z5 =>
 bnd (wrap .u64 y1) fun z6 =>
 bnd (wrap .u64 (z6-z4)) fun z7 =>
 chk (decide (0<=z7)) <|
 bnd (Z02 .u64 p0 z7) fun z8 =>
 bnd (Z7 .or .u64 z5 z8) fun z9 =>
 some z9
theorem Z3u {W:World} {r:Int} {p0:Int} {p1:Int} (h:Z48 p0 p1=some r)  :
    Calls Tryz.prog 364 [.int .u64 (p0),.int .i64 (p1)].toArray W (Z3c W (.int .u64 (r))):=by
 unfold Z48 at h
 refine Za mo Z0pa rfl ?_
 refine Z0<|Z1<|Z8 rfl<|Z2<|Z0<|oH h fun y1 f1 h=>Z1<|Z4 _ (Z1d rfl (Z51 f1))<|Z8 rfl<|Z2<|Z0<|bH h fun z1 e1 h=>bH h fun z2 e2 h=>bH h fun z3 e3 h=>bH h fun z4 e4 h=>Z1<|Z8 rfl<|Z4 _ (iz e1 (Z6x rfl))<|Z8 rfl<|Z4 _ (iz e2 (Zb rfl rfl rfl))<|Z4 _ (iz e3 (Z6x rfl))<|Z4 _ (iz e4 (Zb rfl rfl rfl))<|Z8 rfl<|Z2<|Z0<|cH h fun c1 h=>bH h fun z5 e5 h=>bH h fun z6 e6 h=>bH h fun z7 e7 h=>cH h fun c2 h=>bH h fun z8 e8 h=>bH h fun z9 e9 h=>Z1<|Z8 rfl<|Z8 rfl<|Z4 _ (iz e5 (Z8w rfl rfl (of_decide_eq_true c1)))<|Z8 rfl<|Z8 rfl<|Z4 _ (iz e6 (Z6x rfl))<|Z8 rfl<|Z4 _ (iz e7 (Zb rfl rfl rfl))<|Z4 _ (iz e8 (Zm6 rfl rfl (of_decide_eq_true c2)))<|Z4 _ (iz e9 (Zb rfl rfl rfl))<|Z8 rfl<|Z2<|Zf ?_
 revert h; refine Z01 fun h=>?_
 subst h
 exact ⟨_,(.cons (.tmp rfl) .nil),rfl⟩
def Zf9 (p0:Int) (p1:Int) (p2:Int) (p3:Int):Option Int :=
 opt (Z48 p0 p1) fun y1 =>
 opt (Z48 p0 p2) fun y2 =>
 bnd (Z7 .xor .u64 y1 y2) fun z1 =>
 chk (decide (0<=p3)) <|
 bnd (Zr .u64 p0 p3) fun z2 =>
 bnd (Z7 .xor .u64 z1 z2) fun z3 =>
 some z3
theorem Zfr {W:World} {r:Int} {p0:Int} {p1:Int} {p2:Int} {p3:Int} (h:Zf9 p0 p1 p2 p3=some r)  :
    Calls Tryz.prog 363 [.int .u64 (p0),.int .i64 (p1),.int .i64 (p2),.int .i64 (p3)].toArray W (Z3c W (.int .u64 (r))):=by
 unfold Zf9 at h
 refine Za mo Z0p9 rfl ?_
 refine Z0<|Z1<|Z8 rfl<|Z2<|Z0<|oH h fun y1 f1 h=>oH h fun y2 f2 h=>bH h fun z1 e1 h=>cH h fun c1 h=>bH h fun z2 e2 h=>bH h fun z3 e3 h=>Zv<|Z6 _ (Z04 rfl)<|Z6 _ (Z04 rfl)<|Z6 _ (Z1d rfl (Z3u f1))<|Z6 _ (Z04 rfl)<|Z6 _ (Z04 rfl)<|Z6 _ (Z1d rfl (Z3u f2))<|Z6 _ (iz e1 (Zb rfl rfl rfl))<|Z6 _ (Z04 rfl)<|Z6 _ (Z04 rfl)<|Z6 _ (iz e2 (Z8w rfl rfl (of_decide_eq_true c1)))<|Z6 _ (iz e3 (Zb rfl rfl rfl))<|Z6 _ (Z04 rfl)<|Zy<|Zf ?_
 revert h; refine Z01 fun h=>?_
 subst h
 exact ⟨_,(.cons (.tmp rfl) .nil),rfl⟩
def Za3 (p0:LI) (k1:(LI)->OL) (k2:Int->(LI)->OL) (i1:Int) (a1:LI):OL :=
 br ((decide (i1<80))) (
 jn (fun (a2:LI)=>bnd (wrap .i64 (i1+1)) fun z1 =>
 k2 z1 a2) fun k3=>br ((decide (i1<16))) (
 bnd (wrap .i64 (8*i1)) fun z2 =>
 opt (Z9j (tk p0 0 128) z2) fun y1 =>
 chk (inB i1 80) <|
 bnd (Z3z a1 (i1).toNat y1.1) fun l1 =>
 k3 l1
 ) (
 bnd (wrap .i64 (i1-2)) fun z3 =>
 chk (inB z3 80) <|
 bnd (wrap .i64 (i1-7)) fun z4 =>
 chk (inB z4 80) <|
 bnd (wrap .i64 (i1-15)) fun z5 =>
 chk (inB z5 80) <|
 bnd (wrap .i64 (i1-16)) fun z6 =>
 chk (inB z6 80) <|
 bnd (a1.getD (z3).toNat 0) fun z7 =>
 opt (Zf9 z7 19 61 6) fun y2 =>
 bnd (a1.getD (z4).toNat 0) fun z8 =>
 bnd (wrap .u64 (y2+z8)) fun z9 =>
 bnd (a1.getD (z5).toNat 0) fun z10 =>
 opt (Zf9 z10 1 8 7) fun y3 =>
 bnd (wrap .u64 (z9+y3)) fun z11 =>
 bnd (a1.getD (z6).toNat 0) fun z12 =>
 bnd (wrap .u64 (z11+z12)) fun z13 =>
 chk (inB i1 80) <|
 bnd (Z3z a1 (i1).toNat z13) fun l2 =>
 k3 l2
 )
 ) (
 k1 a1
 )
def Z5l (p0:LI) (k1:(LI)->OL):Nat->Int->(LI)->OL
  | 0,_,_=>none
  | n+1,i1,a1=>Za3 p0 k1 (Z5l p0 k1 n) i1 a1
def Zd6 (p0:LI):OL :=
 jn (fun (a1:LI)=>some a1) fun k1=>Z5l p0 k1 big 0 (replicate 80 0)
theorem Zhy {W:World} {r:(LI)} {p0:LI} (h:Zd6 p0=some r)  :
    Calls Tryz.prog 354 [agg [.ints .u8 128 (p0)]].toArray W (Z3c W (agg [.ints .u64 80 (r)])):=by
 unfold Zd6 at h
 refine Za mo Z0p2 rfl ?_
 refine Z0<|Z1<|Zc (Z06 (s:=[.ints .u8 128 (p0)]) rfl fun b1 u1=>Zc (Zu fun b2 u2=>Z2<|Z0<|Z1<|Zc (Zu fun b3 u3=>Z2<|Z0<|Z0<|Z1<|Z8 rfl<|Z2<|jH h fun k1 q1 h=>Zo (G:=fun t m=>∃ (a1:LI),k1 a1=some r/\Fit [(2,pt' b2),(3,pt' b3)] (ck b3 410 [.ints .u64 80 (a1)]::(ck b2 410 [.ints .u64 80 ((replicate 80 0))]::(ck b1 380 [.ints .u8 128 (p0)] :: []))) t m) ?_ ?_)))
 ·refine Zd<|Z07 (fun n1 t m=>∃ (i1:Int) (a2:LI),Z5l p0 k1 n1 i1 a2=some r/\Fit [(1,pt' b1),(2,pt' b2),(3,pt' b3),(5,.int .i64 (i1))] (ck b3 410 [.ints .u64 80 (a2)]::(ck b2 410 [.ints .u64 80 ((replicate 80 0))]::(ck b1 380 [.ints .u8 128 (p0)] :: []))) t m) big ?_ ?_
  ·exact ⟨0,(replicate 80 0),h,⟨⟨rfl,rfl,rfl,rfl,trivial⟩,(.o (.o (.o .nil)))⟩⟩
  ·rintro n1 t m ⟨i1,a2,h,hF⟩
   refine Zm hF ?_
   clear hF
   rcases n1 with _ | n1
   · exact Z1r h
   have h:Za3 p0 k1 (Z5l p0 k1 n1) i1 a2=some r:=h
   unfold Za3 at h
   obtain ⟨k2,q2⟩ : ∃ k,k=Z5l p0 k1 n1:=⟨_,rfl⟩
   try rw [<- q2] at h
   refine Z0<|Z1<|Z4 _ (Zb rfl rfl rfl)<|Z2<|Z0<|Z0r h rfl (fun h=>?_) (fun h=>?_)
   ·refine Zn<|Z0<|jH h fun k3 q3 h=>Zo (G:=fun t m=>∃ (a3:LI),k3 a3=some r/\Fit [(1,pt' b1),(2,pt' b2),(3,pt' b3),(5,.int .i64 (i1))] (ck b3 410 [.ints .u64 80 (a3)]::(ck b2 410 [.ints .u64 80 ((replicate 80 0))]::(ck b1 380 [.ints .u8 128 (p0)] :: []))) t m) ?_ ?_
    ·refine Zd<|Z0<|Z1<|Z8 rfl<|Z8 rfl<|Z2<|Z0<|Z0<|Z1<|Z8 rfl<|Z4 _ (Zb rfl rfl rfl)<|Z2<|Z0r h rfl (fun h=>?_) (fun h=>?_)
     ·exact Z0<|bH h fun z1 e1 h=>oH h fun y1 f1 h=>cH h fun c1 h=>bH h fun l1 g1 h=>Z1<|Z8 rfl<|Z4 _ (Z88 rfl .no .no .no (by simp) (by decide))<|Z8 rfl<|Z4 _ (iz e1 (Zb rfl rfl rfl))<|Z4 _ (Z0a rfl (fun w hw=>Zf2 f1 ((Z1t (s:=[.ints .u8 128 (p0)]) (N:=128) (k:=.u8) (base:=0) (lo:=0) (hi:=128) (mz:=128) .t2 rfl (by decide)) w hw)))<|Z8 rfl<|Z4 _ (Z17 rfl rfl)<|Z4 _ (Z17 rfl rfl)<|Z4 _ (Z3f rfl rfl (Z1w c1))<|Zc (Z5x (q:=[.ints .u64 80 (l1)]) (base:=0) g1 rfl rfl rfl (Z1i c1) rfl .here<|Z2<|Z0l _ rfl<|⟨l1,h,⟨⟨rfl,rfl,rfl,rfl,trivial⟩,(.o (.o (.o .nil)))⟩⟩)
     ·exact Zn<|bH h fun z2 e2 h=>cH h fun c2 h=>bH h fun z3 e3 h=>cH h fun c3 h=>bH h fun z4 e4 h=>cH h fun c4 h=>bH h fun z5 e5 h=>cH h fun c5 h=>bH h fun z6 e6 h=>oH h fun y2 f2 h=>bH h fun z7 e7 h=>bH h fun z8 e8 h=>bH h fun z9 e9 h=>oH h fun y3 f3 h=>bH h fun z10 e10 h=>bH h fun z11 e11 h=>bH h fun z12 e12 h=>cH h fun c6 h=>bH h fun l2 g2 h=>Zv<|Z6 _ (Z04 rfl)<|Z6 _ (Z04 rfl)<|Z6 _ (iz e2 (Zb rfl rfl rfl))<|Z6 _ (Z3f rfl rfl (Z1w c2))<|Z6 _ (Z04 rfl)<|Z6 _ (iz e3 (Zb rfl rfl rfl))<|Z6 _ (Z3f rfl rfl (Z1w c3))<|Z6 _ (Z04 rfl)<|Z6 _ (iz e4 (Zb rfl rfl rfl))<|Z6 _ (Z3f rfl rfl (Z1w c4))<|Z6 _ (Z04 rfl)<|Z6 _ (iz e5 (Zb rfl rfl rfl))<|Z6 _ (Z3f rfl rfl (Z1w c5))<|Zh _ (iz e6 (Z9f (base:=0) rfl .here rfl (Z1i c2)))<|Z6 _ (Z1d rfl (Zfr f2))<|Zh _ (iz e7 (Z9f (base:=0) rfl .here rfl (Z1i c3)))<|Z6 _ (iz e8 (Zb rfl rfl rfl))<|Zh _ (iz e9 (Z9f (base:=0) rfl .here rfl (Z1i c4)))<|Z6 _ (Z1d rfl (Zfr f3))<|Z6 _ (iz e10 (Zb rfl rfl rfl))<|Zh _ (iz e11 (Z9f (base:=0) rfl .here rfl (Z1i c5)))<|Z6 _ (iz e12 (Zb rfl rfl rfl))<|Z6 _ (Z3f rfl rfl (Z1w c6))<|Z1q rfl (Z5x (q:=[.ints .u64 80 (l2)]) (base:=0) g2 rfl rfl rfl (Z1i c6) rfl .here<|Zy<|⟨l2,h,⟨⟨rfl,rfl,rfl,rfl,trivial⟩,(.o (.o (.o .nil)))⟩⟩)
    ·rintro t m ⟨a3,h,hF⟩
     refine Zm hF ?_
     clear hF
     subst q3
     refine bH h fun z13 e13 h=>Z1<|Z4 _ (iz e13 (Zb rfl rfl rfl))<|Z8 rfl<|Z2 ?_
     rw [q2] at h
     exact ⟨n1,Nat.lt_succ_self _,z13,a3,h,⟨⟨rfl,rfl,rfl,rfl,trivial⟩,(.o (.o (.o .nil)))⟩⟩
   ·exact Z0l _ rfl<|⟨a2,h,⟨⟨rfl,rfl,trivial⟩,(.o (.o (.o .nil)))⟩⟩
 ·rintro t m ⟨a1,h,hF⟩
  refine Zm hF ?_
  clear hF
  subst q1
  refine Z0<|Z1<|Z4 _ (Z00 (p:=[.ints .u64 80 (a1)]) rfl .here rfl)<|Zc (Zl (q:=[.ints .u64 80 (a1)]) rfl rfl rfl rfl rfl .t1<|Z2<|Zf ?_)
  revert h; refine Z01 fun h=>?_
  subst h
  exact ⟨_,(.cons (.agg rfl .t1 rfl) .nil),rfl⟩
def Zhp (p0:Int) (p1:Int) (p2:Int) (p3:Int):Option Int :=
 opt (Z48 p0 p1) fun y1 =>
 opt (Z48 p0 p2) fun y2 =>
 bnd (Z7 .xor .u64 y1 y2) fun z1 =>
 opt (Z48 p0 p3) fun y3 =>
 bnd (Z7 .xor .u64 z1 y3) fun z2 =>
 some z2
theorem Zh3 {W:World} {r:Int} {p0:Int} {p1:Int} {p2:Int} {p3:Int} (h:Zhp p0 p1 p2 p3=some r)  :
    Calls Tryz.prog 355 [.int .u64 (p0),.int .i64 (p1),.int .i64 (p2),.int .i64 (p3)].toArray W (Z3c W (.int .u64 (r))):=by
 unfold Zhp at h
 refine Za mo Z0p3 rfl ?_
 refine Z0<|Z1<|Z8 rfl<|Z2<|Z0<|oH h fun y1 f1 h=>oH h fun y2 f2 h=>bH h fun z1 e1 h=>oH h fun y3 f3 h=>bH h fun z2 e2 h=>Z1<|Z8 rfl<|Z8 rfl<|Z4 _ (Z1d rfl (Z3u f1))<|Z8 rfl<|Z8 rfl<|Z4 _ (Z1d rfl (Z3u f2))<|Z4 _ (iz e1 (Zb rfl rfl rfl))<|Z8 rfl<|Z8 rfl<|Z4 _ (Z1d rfl (Z3u f3))<|Z4 _ (iz e2 (Zb rfl rfl rfl))<|Z8 rfl<|Z2<|Zf ?_
 revert h; refine Z01 fun h=>?_
 subst h
 exact ⟨_,(.cons (.tmp rfl) .nil),rfl⟩
def Zd4 (y1:(LI)) (k1:Int->Int->Int->Int->Int->Int->Int->Int->OL) (k2:Int->Int->Int->Int->Int->Int->Int->Int->Int->OL) (i1:Int) (i2:Int) (i3:Int) (i4:Int) (i5:Int) (i6:Int) (i7:Int) (i8:Int) (i9:Int):OL :=
 br ((decide (i9<80))) (
 chk (inB i9 80) <|
 bnd (G_table.getD (i9).toNat 0) fun z1 =>
 opt (Zhp i5 14 18 41) fun y2 =>
 bnd (wrap .u64 (i8+y2)) fun z2 =>
 bnd (Z7 .and .u64 i5 i6) fun z3 =>
 bnd (Z7 .xor .u64 18446744073709551615 i5) fun z4 =>
 bnd (Z7 .and .u64 z4 i7) fun z5 =>
 bnd (Z7 .xor .u64 z3 z5) fun z6 =>
 bnd (wrap .u64 (z2+z6)) fun z7 =>
 bnd (wrap .u64 (z7+z1)) fun z8 =>
 chk (inB i9 80) <|
 bnd (y1.getD (i9).toNat 0) fun z9 =>
 bnd (wrap .u64 (z8+z9)) fun z10 =>
 opt (Zhp i1 28 34 39) fun y3 =>
 bnd (Z7 .and .u64 i1 i2) fun z11 =>
 bnd (Z7 .and .u64 i1 i3) fun z12 =>
 bnd (Z7 .xor .u64 z11 z12) fun z13 =>
 bnd (Z7 .and .u64 i2 i3) fun z14 =>
 bnd (Z7 .xor .u64 z13 z14) fun z15 =>
 bnd (wrap .u64 (y3+z15)) fun z16 =>
 bnd (wrap .u64 (i4+z10)) fun z17 =>
 bnd (wrap .u64 (z10+z16)) fun z18 =>
 bnd (wrap .i64 (i9+1)) fun z19 =>
 k2 z18 i1 i2 i3 z17 i5 i6 i7 z19
 ) (
 k1 i1 i2 i3 i4 i5 i6 i7 i8
 )
def Z84 (y1:(LI)) (k1:Int->Int->Int->Int->Int->Int->Int->Int->OL):Nat->Int->Int->Int->Int->Int->Int->Int->Int->Int->OL
  | 0,_,_,_,_,_,_,_,_,_=>none
  | n+1,i1,i2,i3,i4,i5,i6,i7,i8,i9=>Zd4 y1 k1 (Z84 y1 k1 n) i1 i2 i3 i4 i5 i6 i7 i8 i9
def Zd5 (z1:LI) (k1:(LI)->OL) (k2:Int->(LI)->OL) (i1:Int) (a1:LI):OL :=
 br ((decide (i1<8))) (
 chk (inB i1 8) <|
 bnd (z1.getD (i1).toNat 0) fun z2 =>
 chk (inB i1 8) <|
 bnd (a1.getD (i1).toNat 0) fun z3 =>
 bnd (wrap .u64 (z3+z2)) fun z4 =>
 chk (inB i1 8) <|
 bnd (Z3z a1 (i1).toNat z4) fun l1 =>
 bnd (wrap .i64 (i1+1)) fun z5 =>
 k2 z5 l1
 ) (
 k1 a1
 )
def Z85 (z1:LI) (k1:(LI)->OL):Nat->Int->(LI)->OL
  | 0,_,_=>none
  | n+1,i1,a1=>Zd5 z1 k1 (Z85 z1 k1 n) i1 a1
def Zdn (p0:LI) (p1:LI):OL :=
 opt (Zd6 p1) fun y1 =>
 bnd (p0.getD 0 0) fun z1 =>
 bnd (p0.getD 1 0) fun z2 =>
 bnd (p0.getD 2 0) fun z3 =>
 bnd (p0.getD 3 0) fun z4 =>
 bnd (p0.getD 4 0) fun z5 =>
 bnd (p0.getD 5 0) fun z6 =>
 bnd (p0.getD 6 0) fun z7 =>
 bnd (p0.getD 7 0) fun z8 =>
 jn (fun (i1:Int) (i2:Int) (i3:Int) (i4:Int) (i5:Int) (i6:Int) (i7:Int) (i8:Int)=>bnd (([i1,i2,i3,i4,i5,i6,i7,i8]:LI)) fun z9 =>
 jn (fun (a1:LI)=>some a1) fun k1=>Z85 z9 k1 big 0 p0) fun k2=>Z84 y1 k2 big z1 z2 z3 z4 z5 z6 z7 z8 0
theorem Zkc {W:World} {r:(LI)} {p0:LI} {p1:LI} (h:Zdn p0 p1=some r) (hG:Globs W) :
    Calls Tryz.prog 320 [agg [u8' p0],agg [.ints .u8 128 (p1)]].toArray W (Z3c W (agg [u8' r])):=by
 unfold Zdn at h
 refine Za mo Z0o9 rfl ?_
 refine Z0<|Z1<|Zc (Z06 (s:=[u8' p0]) rfl fun b1 u1=>Zc (Z06 (s:=[.ints .u8 128 (p1)]) rfl fun b2 u2=>Zc (Zu fun b3 u3=>Z2<|Z0<|oH h fun y1 f1 h=>Z1<|Z4 _ (Z00 (p:=[.ints .u8 128 (p1)]) rfl .t1 (by kernel_rfl))<|Z4 _ (Z1d rfl (Zhy f1))<|Zc (Zu fun b4 u4=>Zc (Zl (q:=[.ints .u64 80 (y1)]) rfl rfl rfl rfl rfl .here<|Z2<|Z0<|bH h fun z1 e1 h=>bH h fun z2 e2 h=>bH h fun z3 e3 h=>bH h fun z4 e4 h=>Zv<|Z6 _ (Z3f rfl rfl (by decide))<|Z6 _ (Z3f rfl rfl (by decide))<|Z6 _ (Z3f rfl rfl (by decide))<|Z6 _ (Z3f rfl rfl (by decide))<|Zh _ (iz e1 (Z0p rfl .t3 rfl))<|Z6 _ (Z04 rfl)<|Zh _ (iz e2 (Z0p rfl .t3 rfl))<|Z6 _ (Z04 rfl)<|Zh _ (iz e3 (Z0p rfl .t3 rfl))<|Z6 _ (Z04 rfl)<|Zh _ (iz e4 (Z0p rfl .t3 rfl))<|Z6 _ (Z04 rfl)<|Zy<|Z0<|bH h fun z5 e5 h=>bH h fun z6 e6 h=>bH h fun z7 e7 h=>bH h fun z8 e8 h=>Zv<|Z6 _ (Z3f rfl rfl (by decide))<|Z6 _ (Z3f rfl rfl (by decide))<|Z6 _ (Z3f rfl rfl (by decide))<|Z6 _ (Z3f rfl rfl (by decide))<|Zh _ (iz e5 (Z0p rfl .t3 rfl))<|Z6 _ (Z04 rfl)<|Zh _ (iz e6 (Z0p rfl .t3 rfl))<|Z6 _ (Z04 rfl)<|Zh _ (iz e7 (Z0p rfl .t3 rfl))<|Z6 _ (Z04 rfl)<|Zh _ (iz e8 (Z0p rfl .t3 rfl))<|Z6 _ (Z04 rfl)<|Zy<|Z0<|Z0<|Z1<|Z4 _ (Zqh (o0:=0) (off:=0) rfl (hG.g4) (by simp) rfl)<|Z8 rfl<|Z2<|jH h fun k1 q1 h=>Zo (G:=fun t m=>∃ (i1:Int) (i2:Int) (i3:Int) (i4:Int) (i5:Int) (i6:Int) (i7:Int) (i8:Int),k1 i1 i2 i3 i4 i5 i6 i7 i8=some r/\Fit [(2,pt' b1),(4,pt' b3),(6,.int .u64 (i1)),(7,.int .u64 (i2)),(8,.int .u64 (i3)),(9,.int .u64 (i4)),(10,.int .u64 (i5)),(11,.int .u64 (i6)),(12,.int .u64 (i7)),(13,.int .u64 (i8))] (ck b4 410 [.ints .u64 80 (y1)]::(ck b3 379 [u8' (replicate 8 0)]::(ck b2 380 [.ints .u8 128 (p1)]::(ck b1 379 [u8' p0] :: [])))) t m) ?_ ?_)))))
 ·refine Zd<|Z07 (fun n1 t m=>∃ (i9:Int) (i10:Int) (i11:Int) (i12:Int) (i13:Int) (i14:Int) (i15:Int) (i16:Int) (i17:Int),Z84 y1 k1 n1 i9 i10 i11 i12 i13 i14 i15 i16 i17=some r/\Fit [(2,pt' b1),(4,pt' b3),(5,pt' b4),(6,.int .u64 (i9)),(7,.int .u64 (i10)),(8,.int .u64 (i11)),(9,.int .u64 (i12)),(10,.int .u64 (i13)),(11,.int .u64 (i14)),(12,.int .u64 (i15)),(13,.int .u64 (i16)),(38,agg [.ints .u64 80 (G_table)]),(39,.int .i64 (i17))] (ck b4 410 [.ints .u64 80 (y1)]::(ck b3 379 [u8' (replicate 8 0)]::(ck b2 380 [.ints .u8 128 (p1)]::(ck b1 379 [u8' p0] :: [])))) t m) big ?_ ?_
  ·exact ⟨z1,z2,z3,z4,z5,z6,z7,z8,0,h,⟨⟨rfl,rfl,rfl,rfl,rfl,rfl,rfl,rfl,rfl,rfl,rfl,rfl,rfl,trivial⟩,(.o (.o (.o (.o .nil))))⟩⟩
  ·rintro n1 t m ⟨i9,i10,i11,i12,i13,i14,i15,i16,i17,h,hF⟩
   refine Zm hF ?_
   clear hF
   rcases n1 with _ | n1
   · exact Z1r h
   have h:Zd4 y1 k1 (Z84 y1 k1 n1) i9 i10 i11 i12 i13 i14 i15 i16 i17=some r:=h
   unfold Zd4 at h
   obtain ⟨k2,q2⟩ : ∃ k,k=Z84 y1 k1 n1:=⟨_,rfl⟩
   try rw [<- q2] at h
   refine Z0<|Z1<|Z4 _ (Zb rfl rfl rfl)<|Z2<|Z0<|Z0r h rfl (fun h=>?_) (fun h=>?_)
   ·refine Zn<|Z0<|Zd<|Z0<|cH h fun c1 h=>bH h fun z9 e9 h=>Z1<|Z8 rfl<|Z4 _ (iz e9 (Zgs (len:=80) rfl rfl (Z1w c1)))<|Z8 rfl<|Z8 rfl<|Z2<|Z0<|oH h fun y2 f2 h=>bH h fun z10 e10 h=>bH h fun z11 e11 h=>bH h fun z12 e12 h=>bH h fun z13 e13 h=>bH h fun z14 e14 h=>bH h fun z15 e15 h=>bH h fun z16 e16 h=>cH h fun c2 h=>bH h fun z17 e17 h=>bH h fun z18 e18 h=>Zv<|Z6 _ (Z04 rfl)<|Z6 _ (Z04 rfl)<|Z6 _ (Z1d rfl (Zh3 f2))<|Z6 _ (iz e10 (Zb rfl rfl rfl))<|Z6 _ (Z04 rfl)<|Z6 _ (Z04 rfl)<|Z6 _ (iz e11 (Zb rfl rfl rfl))<|Z6 _ (Z04 rfl)<|Z6 _ (iz e12 (Zmv rfl rfl))<|Z6 _ (Z04 rfl)<|Z6 _ (iz e13 (Zb rfl rfl rfl))<|Z6 _ (iz e14 (Zb rfl rfl rfl))<|Z6 _ (iz e15 (Zb rfl rfl rfl))<|Z6 _ (Z04 rfl)<|Z6 _ (iz e16 (Zb rfl rfl rfl))<|Z6 _ (Z04 rfl)<|Z6 _ (Z3f rfl rfl (Z1w c2))<|Zh _ (iz e17 (Z9f (base:=0) rfl .here rfl (Z1i c2)))<|Z6 _ (iz e18 (Zb rfl rfl rfl))<|Z6 _ (Z04 rfl)<|Zy<|Z0<|oH h fun y3 f3 h=>bH h fun z19 e19 h=>bH h fun z20 e20 h=>bH h fun z21 e21 h=>bH h fun z22 e22 h=>bH h fun z23 e23 h=>bH h fun z24 e24 h=>Z1<|Z8 rfl<|Z4 _ (Z1d rfl (Zh3 f3))<|Z8 rfl<|Z8 rfl<|Z4 _ (iz e19 (Zb rfl rfl rfl))<|Z8 rfl<|Z8 rfl<|Z4 _ (iz e20 (Zb rfl rfl rfl))<|Z4 _ (iz e21 (Zb rfl rfl rfl))<|Z8 rfl<|Z8 rfl<|Z4 _ (iz e22 (Zb rfl rfl rfl))<|Z4 _ (iz e23 (Zb rfl rfl rfl))<|Z4 _ (iz e24 (Zb rfl rfl rfl))<|Z8 rfl<|Z2<|bH h fun z25 e25 h=>bH h fun z26 e26 h=>Z1<|Z8 rfl<|Z8 rfl<|Z8 rfl<|Z8 rfl<|Z8 rfl<|Z4 _ (iz e25 (Zb rfl rfl rfl))<|Z8 rfl<|Z8 rfl<|Z8 rfl<|Z8 rfl<|Z8 rfl<|Z4 _ (iz e26 (Zb rfl rfl rfl))<|Z8 rfl<|Z8 rfl<|Z8 rfl<|Z8 rfl<|Z8 rfl<|Z8 rfl<|Z8 rfl<|Z8 rfl<|Z2<|bH h fun z27 e27 h=>Z1<|Z4 _ (iz e27 (Zb rfl rfl rfl))<|Z8 rfl<|Z2 ?_
    rw [q2] at h
    exact ⟨n1,Nat.lt_succ_self _,z26,i9,i10,i11,z25,i13,i14,i15,z27,h,⟨⟨rfl,rfl,rfl,rfl,rfl,rfl,rfl,rfl,rfl,rfl,rfl,rfl,rfl,trivial⟩,(.o (.o (.o (.o .nil))))⟩⟩
   ·exact Z0l _ rfl<|⟨i9,i10,i11,i12,i13,i14,i15,i16,h,⟨⟨rfl,rfl,rfl,rfl,rfl,rfl,rfl,rfl,rfl,rfl,trivial⟩,(.o (.o (.o (.o .nil))))⟩⟩
 ·rintro t m ⟨i1,i2,i3,i4,i5,i6,i7,i8,h,hF⟩
  refine Zm hF ?_
  clear hF
  subst q1
  refine Z0<|Z0<|bH h fun z28 e28 h=>Z1<|Z8 rfl<|Z8 rfl<|Z8 rfl<|Z8 rfl<|Z8 rfl<|Z8 rfl<|Z8 rfl<|Z8 rfl<|Z4 _ (az (fun z=>agg [.ints .u64 8 z]) e28 (Zcd (.one rfl rfl rfl (.one rfl rfl rfl (.one rfl rfl rfl (.one rfl rfl rfl (.one rfl rfl rfl (.one rfl rfl rfl (.one rfl rfl rfl (.one rfl rfl rfl BdR.nil))))))))))<|Z8 rfl<|Z2<|jH h fun k3 q3 h=>Zo (G:=fun t m=>∃ (a1:LI),k3 a1=some r/\Fit [(2,pt' b1),(4,pt' b3)] (ck b4 410 [.ints .u64 80 (y1)]::(ck b3 379 [u8' (replicate 8 0)]::(ck b2 380 [.ints .u8 128 (p1)]::(ck b1 379 [u8' a1] :: [])))) t m) ?_ ?_
  ·refine Zd<|Z07 (fun n2 t m=>∃ (i18:Int) (a2:LI),Z85 z28 k3 n2 i18 a2=some r/\Fit [(2,pt' b1),(4,pt' b3),(97,agg [u8' z28]),(98,.int .i64 (i18))] (ck b4 410 [.ints .u64 80 (y1)]::(ck b3 379 [u8' (replicate 8 0)]::(ck b2 380 [.ints .u8 128 (p1)]::(ck b1 379 [u8' a2] :: [])))) t m) big ?_ ?_
   ·exact ⟨0,p0,h,⟨⟨rfl,rfl,rfl,rfl,trivial⟩,(.o (.o (.o (.o .nil))))⟩⟩
   ·rintro n2 t m ⟨i18,a2,h,hF⟩
    refine Zm hF ?_
    clear hF
    rcases n2 with _ | n2
    · exact Z1r h
    have h:Zd5 z28 k3 (Z85 z28 k3 n2) i18 a2=some r:=h
    unfold Zd5 at h
    obtain ⟨k4,q4⟩ : ∃ k,k=Z85 z28 k3 n2:=⟨_,rfl⟩
    try rw [<- q4] at h
    refine Z0<|Z1<|Z4 _ (Zb rfl rfl rfl)<|Z2<|Z0<|Z0r h rfl (fun h=>?_) (fun h=>?_)
    ·refine Zn<|Z0<|Zd<|Z0<|cH h fun c3 h=>bH h fun z29 e29 h=>Z1<|Z8 rfl<|Z4 _ (iz e29 (Zgs (len:=8) rfl rfl (Z1w c3)))<|Z8 rfl<|Z8 rfl<|Z2<|cH h fun c4 h=>bH h fun z30 e30 h=>bH h fun z31 e31 h=>cH h fun c5 h=>bH h fun l1 g1 h=>Z1<|Z8 rfl<|Z4 _ (Z3f rfl rfl (Z1w c4))<|Z4 _ (iz e30 (Z9f (base:=0) rfl .t3 rfl (Z1i c4)))<|Z8 rfl<|Z4 _ (iz e31 (Zb rfl rfl rfl))<|Z4 _ (Z3f rfl rfl (Z1w c5))<|Zc (Z5x (q:=[u8' l1]) (base:=0) g1 rfl rfl rfl (Z1i c5) rfl .t3<|Z2<|bH h fun z32 e32 h=>Z1<|Z4 _ (iz e32 (Zb rfl rfl rfl))<|Z8 rfl<|Z2 ?_)
     rw [q4] at h
     exact ⟨n2,Nat.lt_succ_self _,z32,l1,h,⟨⟨rfl,rfl,rfl,rfl,trivial⟩,(.o (.o (.o (.o .nil))))⟩⟩
    ·exact Z0l _ rfl<|⟨a2,h,⟨⟨rfl,rfl,trivial⟩,(.o (.o (.o (.o .nil))))⟩⟩
  ·rintro t m ⟨a1,h,hF⟩
   refine Zm hF ?_
   clear hF
   subst q3
   refine Z0<|Z1<|Z4 _ (Z00 (p:=[u8' a1]) rfl .t3 rfl)<|Zc (Zl (q:=[u8' a1]) rfl rfl rfl rfl rfl .t1<|Z2<|Zf ?_)
   revert h; refine Z01 fun h=>?_
   subst h
   exact ⟨_,(.cons (.agg rfl .t1 rfl) .nil),rfl⟩
def Z2h (z1:Int) (k1:(LI)->(LI)->(LI)->Int->Option (Zw)) (l1:LI) (a1:LI) (a2:LI) (i1:Int):Option (Zw) :=
 br ((decide ((l1.length:Int)>0))) (
 chk (Zki i1 128 128) <|
 bnd (wr a2 (i1).toNat (l1.take (128-(i1).toNat))) fun l2 =>
 chk (Zki ((Nat.min l1.length (128-(i1).toNat):Nat):Int) (l1.length:Int) l1.length) <|
 bnd (wrap .i64 (i1+((Nat.min l1.length (128-(i1).toNat):Nat):Int))) fun z2 =>
 br ((z2==128)) (
 opt (Zdn a1 l2) fun y1 =>
 k1 ((l1.drop (((Nat.min l1.length (128-(i1).toNat):Nat):Int)).toNat).take (((l1.length:Int)).toNat-(((Nat.min l1.length (128-(i1).toNat):Nat):Int)).toNat)) y1 l2 0
 ) (
 k1 ((l1.drop (((Nat.min l1.length (128-(i1).toNat):Nat):Int)).toNat).take (((l1.length:Int)).toNat-(((Nat.min l1.length (128-(i1).toNat):Nat):Int)).toNat)) a1 l2 z2
 )
 ) (
 some (⟨a1,a2,i1,z1⟩:Zw)
 )
def Z14 (z1:Int):Nat->(LI)->(LI)->(LI)->Int->Option (Zw)
  | 0,_,_,_,_=>none
  | n+1,l1,a1,a2,i1=>Z2h z1 (Z14 z1 n) l1 a1 a2 i1
def Z1g (p0:Zw) (p1:LI):Option (Zw) :=
 bnd (wrap .u64 (p1.length:Int)) fun z1 =>
 bnd (wrap .u64 (p0.glength+z1)) fun z2 =>
 Z14 z2 big p1 p0.gstate p0.gheld p0.ghave
theorem Z68 {W:World} {r:Zw} {p0:Zw} {p1:LI} {v1:Value} {b:Nat} {T:TypeId} (h:Z1g p0 p1=some r) (h0:Sat W [b] (ck b T [u8' p0.gstate,.ints .u8 128 (p0.gheld),.one (.int .i64 (p0.ghave)),.one (.int .u64 (p0.glength))] :: []) W) (hG:Globs W) (hS : ∀ g,g<ng->g ∉ [b]) (A1:Z6m (El.int .u8) W v1 p1/\Zcl v1 p1 [b]) :
    Calls Tryz.prog 223 [.pointer (some ⟨b,0,none⟩),v1].toArray W (Z8e W [b] (fun v Ms=>v = .tuple #[]/\Ms = [.one (ck b T [u8' r.gstate,.ints .u8 128 (r.gheld),.one (.int .i64 (r.ghave)),.one (.int .u64 (r.glength))])])):=by
 unfold Z1g at h
 refine Zs mo Z0mw rfl h0 ?_
 refine Z0<|bH h fun z1 e1 h=>bH h fun z2 e2 h=>Z1<|Z8 rfl<|Z4 _ (Z1l rfl)<|Z4 _ (Z1v rfl)<|Z4 _ (Z0p rfl .here rfl)<|Z8 rfl<|Z4 _ (Z5j rfl (Shp.rd A1.1))<|Z4 _ (iz e1 (Z6x rfl))<|Z4 _ (iz e2 (Zb rfl rfl rfl))<|Z4 _ (Z1l rfl)<|Z4 _ (Z1v rfl)<|Zc (Zgc (q:=[u8' p0.gstate,.ints .u8 128 (p0.gheld),.one (.int .i64 (p0.ghave)),.one (.int .u64 (z2))]) rfl rfl rfl (by kernel_rfl) .here<|Z2<|Zd<|Z07 (fun n1 t m=>∃ (l1:LI) (a1:LI) (a2:LI) (i1:Int) (v38:Value),Z14 z2 n1 l1 a1 a2 i1=some r/\(Z6m (El.int .u8) W v38 l1/\Zcl v38 l1 [b])/\Fit [(0,.pointer (some ⟨b,0,none⟩)),(1,v38)] (ck b T [u8' a1,.ints .u8 128 (a2),.one (.int .i64 (i1)),.one (.int .u64 (z2))] :: []) t m) big ?_ ?_)
 ·exact ⟨p1,p0.gstate,p0.gheld,p0.ghave,v1,h,A1,⟨⟨rfl,rfl,trivial⟩,(.o .nil)⟩⟩
 ·rintro n1 t m ⟨l1,a1,a2,i1,v38,h,A40,hF⟩
  refine Zm hF ?_
  clear hF
  rcases n1 with _ | n1
  · exact Z1r h
  have h:Z2h z2 (Z14 z2 n1) l1 a1 a2 i1=some r:=h
  unfold Z2h at h
  obtain ⟨k1,q1⟩ : ∃ k,k=Z14 z2 n1:=⟨_,rfl⟩
  try rw [<- q1] at h
  refine Z0<|Z0<|Z1<|Z8 rfl<|Z4 _ (Z5j rfl (Shp.rd A40.1))<|Z4 _ (Zb rfl rfl rfl)<|Z2<|Z0r h rfl (fun h=>?_) (fun h=>?_)
  ·refine Zn<|Zd<|Z0<|cH h fun c1 h=>bH h fun l2 g1 h=>Zv<|Z6 _ (Z04 rfl)<|Z6 _ (Z1l rfl)<|Z6 _ (Z1v rfl)<|Z6 _ (Z04 rfl)<|Z6 _ (Z1l rfl)<|Z6 _ (Z1v rfl)<|Z6 _ (Z04 rfl)<|Zh _ (Z0p rfl .here rfl)<|Z6 _ (Z88 rfl (.yes rfl) .no .no (by simp) (cut4 c1))<|Z1q rfl (Zf3 (q:=[u8' a1,.ints .u8 128 (l2),.one (.int .i64 (i1)),.one (.int .u64 (z2))]) (lo:=(i1).toNat) (hi:=128) (mz:=128) (base:=8) g1 rfl rfl (Z1m A40.1 A40.2) rfl (cutn c1) rfl .here<|Z6 _ (Z04 rfl)<|Zy<|Z0<|cH h fun c2 h=>Z1<|Z8 rfl<|Z8 rfl<|Z4 _ (Ztn (lz:=((Nat.min l1.length (128-(i1).toNat):Nat):Int)) (hz:=(l1.length:Int)) rfl (Shp.rd A40.1) (.yes rfl) .no c2)<|Z8 rfl<|Z2<|Z0<|bH h fun z3 e3 h=>Z1<|Z8 rfl<|Z4 _ (Z1l rfl)<|Z4 _ (Z1v rfl)<|Z4 _ (Z0p rfl .here rfl)<|Z8 rfl<|Z4 _ (iz e3 (Zb rfl rfl rfl))<|Z4 _ (Z1l rfl)<|Z4 _ (Z1v rfl)<|Zc (Zgc (q:=[u8' a1,.ints .u8 128 (l2),.one (.int .i64 (z3)),.one (.int .u64 (z2))]) rfl rfl rfl (by kernel_rfl) .here<|Z2<|Z0<|Z1<|Z8 rfl<|Z4 _ (Z1l rfl)<|Z4 _ (Z1v rfl)<|Z4 _ (Z0p rfl .here rfl)<|Z4 _ (Zb rfl rfl rfl)<|Z2<|Z0r h rfl (fun h=>?_) (fun h=>?_)))
   ·refine Z0<|oH h fun y1 f1 h=>Zv<|Z6 _ (Z04 rfl)<|Z6 _ (Z04 rfl)<|Z6 _ (Z1l rfl)<|Z6 _ (Z1v rfl)<|Z6 _ (Z04 rfl)<|Z6 _ (Z1l rfl)<|Z6 _ (Z1v rfl)<|Zh _ (Z00 (p:=[u8' a1]) rfl .here (by kernel_rfl))<|Zh _ (Z00 (p:=[.ints .u8 128 (l2)]) rfl .here (by kernel_rfl))<|Z6 _ (Z0a rfl (fun w hw=>Zkc f1 (hG.at hw hS)))<|Z6 _ (Z1l rfl)<|Z6 _ (Z1v rfl)<|Z1q rfl (Zl (p:=[u8' y1]) (q:=[u8' y1,.ints .u8 128 (l2),.one (.int .i64 (z3)),.one (.int .u64 (z2))]) rfl rfl (by kernel_rfl) (by kernel_rfl) (by kernel_rfl) .here<|Zy<|Z1<|Z8 rfl<|Z4 _ (Z1l rfl)<|Z4 _ (Z1v rfl)<|Zc (Zgc (q:=[u8' y1,.ints .u8 128 (l2),.one (.int .i64 (0)),.one (.int .u64 (z2))]) rfl rfl rfl (by kernel_rfl) .here<|Z2 ?_))
    rw [q1] at h
    exact ⟨n1,Nat.lt_succ_self _,((l1.drop (((Nat.min l1.length (128-(i1).toNat):Nat):Int)).toNat).take (((l1.length:Int)).toNat-(((Nat.min l1.length (128-(i1).toNat):Nat):Int)).toNat)),y1,l2,0,(Zed 1 v38 (((Nat.min l1.length (128-(i1).toNat):Nat):Int)).toNat ((l1.length:Int)).toNat),h,(Ztq A40 (lz:=((Nat.min l1.length (128-(i1).toNat):Nat):Int)) (hz:=(l1.length:Int)) c2),⟨⟨rfl,rfl,trivial⟩,(.o .nil)⟩⟩
   ·refine Zn ?_
    rw [q1] at h
    exact ⟨n1,Nat.lt_succ_self _,((l1.drop (((Nat.min l1.length (128-(i1).toNat):Nat):Int)).toNat).take (((l1.length:Int)).toNat-(((Nat.min l1.length (128-(i1).toNat):Nat):Int)).toNat)),a1,l2,z3,(Zed 1 v38 (((Nat.min l1.length (128-(i1).toNat):Nat):Int)).toNat ((l1.length:Int)).toNat),h,(Ztq A40 (lz:=((Nat.min l1.length (128-(i1).toNat):Nat):Int)) (hz:=(l1.length:Int)) c2),⟨⟨rfl,rfl,trivial⟩,(.o .nil)⟩⟩
  ·refine Z0l _ rfl ?_
   revert h; refine Z01 fun h=>?_
   subst h
   exact ⟨_,_,.nil,(.o .nil),⟨_,rfl,⟨rfl,rfl⟩⟩⟩
def Z4y (p0:Zw):Option (Zw×Zw) :=
 some (p0,p0)
theorem Zev {W:World} {r:Zw×Zw} {p0:Zw} {b:Nat} {T:TypeId} (h:Z4y p0=some r) (h0:Sat W [b] (ck b T [u8' p0.gstate,.ints .u8 128 (p0.gheld),.one (.int .i64 (p0.ghave)),.one (.int .u64 (p0.glength))] :: []) W) :
    Calls Tryz.prog 321 [.pointer (some ⟨b,0,none⟩)].toArray W (Z8e W [b] (fun v Ms=>∃ (b1:Nat) (T0:TypeId),v = pt' b1/\Ms = [.one (ck b1 T0 [u8' r.1.gstate,.ints .u8 128 (r.1.gheld),.one (.int .i64 (r.1.ghave)),.one (.int .u64 (r.1.glength))]),.one (ck b T [u8' r.2.gstate,.ints .u8 128 (r.2.gheld),.one (.int .i64 (r.2.ghave)),.one (.int .u64 (r.2.glength))])])):=by
 unfold Z4y at h
 refine Zs mo Z0oa rfl h0 ?_
 refine Z0<|Z1<|Z8 rfl<|Z2<|Z0<|Z1<|Z8 rfl<|Z4 _ (Z1l rfl)<|Z4 _ (Z00 (p:=[u8' p0.gstate,.ints .u8 128 (p0.gheld),.one (.int .i64 (p0.ghave)),.one (.int .u64 (p0.glength))]) rfl .here (by kernel_rfl))<|Zc (Zu fun b2 u1=>Zc (Zl (p:=[u8' p0.gstate,.ints .u8 128 (p0.gheld),.one (.int .i64 (p0.ghave)),.one (.int .u64 (p0.glength))]) (q:=[u8' p0.gstate,.ints .u8 128 (p0.gheld),.one (.int .i64 (p0.ghave)),.one (.int .u64 (p0.glength))]) rfl rfl (by kernel_rfl) (by kernel_rfl) (by kernel_rfl) .here<|Z2<|Z0<|Z1<|Z8 rfl<|Z2<|Zf ?_))
 revert h; refine Z01 fun h=>?_
 subst h
 exact ⟨_,_,(.cons (.tmp rfl) .nil),(.o (.o .nil)),⟨_,rfl,⟨b2,382,rfl,rfl⟩⟩⟩
def Zb0 (p0:Int):OL :=
 bnd (wrap .u64 (p0+17)) fun z1 =>
 bnd (Int.tmod z1 128) fun z2 =>
 bnd (wrap .i64 z2) fun z3 =>
 bnd (wrap .i64 (128-z3)) fun z4 =>
 bnd (Int.tmod z4 128) fun z5 =>
 bnd (wrap .i64 (17+z5)) fun z6 =>
 chk (mkB 1 0 z6) <|
 chk (decide (((replicate 0 0:LI).length+([128]:LI).length)*1<=140737488355328)) <|
 bnd ((replicate 0 0:LI)++([128]:LI)) fun l1 =>
 chk (decide (0<=z5)) <|
 chk (decide ((l1.length+(z5).toNat)*1<=140737488355328)) <|
 bnd (l1++replicate (z5).toNat 0) fun l2 =>
 bnd (Zr .u64 p0 61) fun z7 =>
 opt (Z0s z7) fun y1 =>
 chk (decide ((l2.length+y1.length)*1<=140737488355328)) <|
 bnd (l2++y1) fun l3 =>
 bnd (Z02 .u64 p0 3) fun z8 =>
 opt (Z0s z8) fun y2 =>
 chk (decide ((l3.length+y2.length)*1<=140737488355328)) <|
 bnd (l3++y2) fun l4 =>
 some l4
theorem Zmi {W:World} {r:(LI)} {p0:Int} (h:Zb0 p0=some r)  :
    Calls Tryz.prog 322 [.int .u64 (p0)].toArray W (Z8e W [] (fun v Ms=>∃ (u0:Value) (M1:List Ze),v=u0/\Ms = [.all M1]/\Z09 (El.int .u8) u0 M1 r)):=by
 unfold Zb0 at h
 refine Zs mo Z0ob rfl (Zez _) ?_
 refine Z0<|Z1<|Z8 rfl<|Z2<|Z0<|bH h fun z1 e1 h=>bH h fun z2 e2 h=>bH h fun z3 e3 h=>bH h fun z4 e4 h=>bH h fun z5 e5 h=>Z1<|Z8 rfl<|Z4 _ (iz e1 (Zb rfl rfl rfl))<|Z4 _ (iz e2 (Zk6 rfl rfl (by decide)))<|Z4 _ (iz e3 (Z6x rfl))<|Z4 _ (iz e4 (Zb rfl rfl rfl))<|Z4 _ (iz e5 (Zk6 rfl rfl (by decide)))<|Z8 rfl<|Z2<|Z0<|bH h fun z6 e6 h=>cH h fun c1 h=>Z1<|Z8 rfl<|Z4 _ (iz e6 (Zb rfl rfl rfl))<|Zc (Zf4 (E:=(El.int .u8)) rfl rfl rfl c1 fun v11 w1 O1=>Z8 rfl<|Z2<|Z0<|cH h fun c2 h=>bH h fun l1 g1 h=>Z1<|Z8 rfl<|Zc (Z54 (E:=(El.int .u8)) (xs:=[128]) (.one rfl rfl rfl BdR.nil) (.cons (p:=[.one (.int .u8 (128))]) rfl .nil) rfl fun v15 w2 O2=>Zc (Z9r (E:=(El.int .u8)) g1 rfl O1 (.app .here) rfl (Z0b O2 .here) c2 fun v20 w3 O3=>Z8 rfl<|Z2<|Z0<|cH h fun c3 h=>cH h fun c4 h=>bH h fun l2 g2 h=>Z1<|Z8 rfl<|Z8 rfl<|Zc (Z04o (E:=(El.int .u8)) g2 rfl O3 .here rfl c3 rfl c4 fun v27 w4 O4=>Z8 rfl<|Z2<|Z0<|bH h fun z7 e7 h=>oH h fun y1 f1 h=>cH h fun c5 h=>bH h fun l3 g3 h=>Z1<|Z8 rfl<|Z8 rfl<|Z4 _ (iz e7 (Z8w rfl rfl (by decide)))<|Zc (Zk rfl (fun w hw=>Z1x  f1 ) fun v33 o1 R1=>?_)))))
 obtain ⟨_,w5,rfl,rfl,O5⟩:=R1
 refine Zc (Z9r (E:=(El.int .u8)) g3 rfl O4 (.app .here) rfl (Z0b O5 .here) c5 fun v40 w6 O6=>Z8 rfl<|Z2<|Z0<|bH h fun z8 e8 h=>oH h fun y2 f2 h=>cH h fun c6 h=>bH h fun l4 g4 h=>Z1<|Z8 rfl<|Z8 rfl<|Z4 _ (iz e8 (Zm6 rfl rfl (by decide)))<|Zc (Zk rfl (fun w hw=>Z1x  f2 ) fun v46 o2 R2=>?_))
 obtain ⟨_,w7,rfl,rfl,O7⟩:=R2
 refine Zc (Z9r (E:=(El.int .u8)) g4 rfl O6 (.app .here) rfl (Z0b O7 .here) c6 fun v53 w8 O8=>Z8 rfl<|Z2<|Zf ?_)
 revert h; refine Z01 fun h=>?_
 subst h
 exact ⟨_,_,(.cons (.tmp rfl) .nil),(.all .here .nil),⟨_,rfl,⟨v53,w8,rfl,rfl,O8⟩⟩⟩
def Z8g (y1:Zw) (k1:(LI)->Option ((LI)×Zw)) (k2:Int->(LI)->Option ((LI)×Zw)) (i1:Int) (a1:LI):Option ((LI)×Zw) :=
 br ((decide (i1<8))) (
 chk (inB i1 8) <|
 bnd (y1.gstate.getD (i1).toNat 0) fun z1 =>
 bnd (wrap .i64 (8*i1)) fun z2 =>
 chk (Zki z2 64 64) <|
 opt (Z0s z1) fun y2 =>
 bnd (wr a1 (z2).toNat (y2.take (64-(z2).toNat))) fun l1 =>
 bnd (wrap .i64 (i1+1)) fun z3 =>
 k2 z3 l1
 ) (
 k1 a1
 )
def Z2b (y1:Zw) (k1:(LI)->Option ((LI)×Zw)):Nat->Int->(LI)->Option ((LI)×Zw)
  | 0,_,_=>none
  | n+1,i1,a1=>Z8g y1 k1 (Z2b y1 k1 n) i1 a1
def Z2x (p0:Zw):Option ((LI)×Zw) :=
 opt (Z4y p0) fun y1 =>
 opt (Zb0 y1.2.glength) fun y2 =>
 opt (Z1g y1.1 y2) fun y3 =>
 jn (fun (a1:LI)=>some (a1,y1.2)) fun k1=>Z2b y3 k1 big 0 (replicate 64 0)
theorem Zae {W:World} {r:(LI)×Zw} {p0:Zw} {b:Nat} {T:TypeId} (h:Z2x p0=some r) (h0:Sat W [b] (ck b T [u8' p0.gstate,.ints .u8 128 (p0.gheld),.one (.int .i64 (p0.ghave)),.one (.int .u64 (p0.glength))] :: []) W) (hG:Globs W) (hS : ∀ g,g<ng->g ∉ [b]) :
    Calls Tryz.prog 224 [.pointer (some ⟨b,0,none⟩)].toArray W (Z8e W [b] (fun v Ms=>v=agg [b6' r.1]/\Ms = [.one (ck b T [u8' r.2.gstate,.ints .u8 128 (r.2.gheld),.one (.int .i64 (r.2.ghave)),.one (.int .u64 (r.2.glength))])])):=by
 unfold Z2x at h
 refine Zs mo Z0mx rfl h0 ?_
 refine Z0<|Z1<|Zc (Zu fun b1 u1=>Z2<|Z0<|oH h fun y1 f1 h=>Z1<|Z8 rfl<|Zc (Z2z (mS:=[_]) rfl (Z40.perm .t1) (fun w hw=>Zev  f1 (Zav hw (mS:=[_]) (Z40.perm .t1)) ) fun v5 o1 R1=>?_))
 obtain ⟨b2,T8,rfl,rfl⟩:=R1
 refine Z8 rfl<|Z2<|Z0<|oH h fun y2 f2 h=>oH h fun y3 f3 h=>Z1<|Z8 rfl<|Z8 rfl<|Z4 _ (Z1l rfl)<|Z4 _ (Z1v rfl)<|Z4 _ (Z0p rfl .t1 rfl)<|Zc (Zk rfl (fun w hw=>Zmi  f2 ) fun v11 o2 R2=>?_)
 obtain ⟨_,w1,rfl,rfl,O1⟩:=R2
 refine Zc (Z2z (mS:=[_]) rfl (Z40.perm (.app .here)) (fun w hw=>Z68  f3 (Zav hw (mS:=[_]) (Z40.perm (.app .here))) (hG.at hw hS) (hG.ap hS (.app .here) hw) ⟨(Z0b O1 .here) w hw,(Zco (E:=(El.int .u8)) O1 .here .here hw)⟩) fun v17 o3 R3=>?_)
 obtain ⟨rfl,rfl⟩:=R3
 refine Z2<|Z0<|Z1<|Zc (Zu fun b3 u2=>Z2<|Z0<|Z0<|Z1<|Z8 rfl<|Z4 _ (Z1l rfl)<|Z4 _ (Z1v rfl)<|Z4 _ (Z00 (p:=[u8' y3.gstate]) rfl .t1 (by kernel_rfl))<|Z8 rfl<|Z2<|jH h fun k1 q1 h=>Zo (G:=fun t m=>∃ (a1:LI),k1 a1=some r/\Fit [(2,pt' b1),(4,pt' b3)] (ck b3 212 [b6' a1]::(ck b2 T8 [u8' y3.gstate,.ints .u8 128 (y3.gheld),.one (.int .i64 (y3.ghave)),.one (.int .u64 (y3.glength))]::(ck b T [u8' y1.2.gstate,.ints .u8 128 (y1.2.gheld),.one (.int .i64 (y1.2.ghave)),.one (.int .u64 (y1.2.glength))]::(ck b1 212 [b6' (replicate 64 0)] :: [])))) t m) ?_ ?_)
 ·refine Zd<|Z07 (fun n1 t m=>∃ (i1:Int) (a2:LI),Z2b y3 k1 n1 i1 a2=some r/\Fit [(2,pt' b1),(4,pt' b3),(19,agg [u8' y3.gstate]),(20,.int .i64 (i1))] (ck b3 212 [b6' a2]::(ck b2 T8 [u8' y3.gstate,.ints .u8 128 (y3.gheld),.one (.int .i64 (y3.ghave)),.one (.int .u64 (y3.glength))]::(ck b T [u8' y1.2.gstate,.ints .u8 128 (y1.2.gheld),.one (.int .i64 (y1.2.ghave)),.one (.int .u64 (y1.2.glength))]::(ck b1 212 [b6' (replicate 64 0)] :: [])))) t m) big ?_ ?_
  ·exact ⟨0,(replicate 64 0),h,⟨⟨rfl,rfl,rfl,rfl,trivial⟩,(.o (.o (.one (.app .here) (.one (.app .here) .nil))))⟩⟩
  ·rintro n1 t m ⟨i1,a2,h,hF⟩
   refine Zm hF ?_
   clear hF
   rcases n1 with _ | n1
   · exact Z1r h
   have h:Z8g y3 k1 (Z2b y3 k1 n1) i1 a2=some r:=h
   unfold Z8g at h
   obtain ⟨k2,q2⟩ : ∃ k,k=Z2b y3 k1 n1:=⟨_,rfl⟩
   try rw [<- q2] at h
   refine Z0<|Z1<|Z4 _ (Zb rfl rfl rfl)<|Z2<|Z0<|Z0r h rfl (fun h=>?_) (fun h=>?_)
   ·refine Zn<|Z0<|Zd<|Z0<|cH h fun c1 h=>bH h fun z1 e1 h=>Z1<|Z8 rfl<|Z4 _ (iz e1 (Zgs (len:=8) rfl rfl (Z1w c1)))<|Z8 rfl<|Z8 rfl<|Z2<|bH h fun z2 e2 h=>cH h fun c2 h=>oH h fun y4 f4 h=>bH h fun l1 g1 h=>Zv<|Z6 _ (Z04 rfl)<|Z6 _ (iz e2 (Zb rfl rfl rfl))<|Z6 _ (Z88 rfl (.yes rfl) .no .no (by simp) (cut4 c2))<|Z6 _ (Z04 rfl)<|Z2u (Zk rfl (fun w hw=>Z1x  f4 ) fun v120 o4 R4=>?_)
    obtain ⟨_,w2,rfl,rfl,O2⟩:=R4
    refine ⟨(by repeat (first | exact Sup.refl _ | apply Sup.cons | apply Sup.app)),Z1q rfl (Zf3 (q:=[b6' l1]) (lo:=(z2).toNat) (hi:=64) (mz:=64) (base:=0) g1 rfl rfl (Z0b O2 .here) rfl (cutn c2) rfl (.app .here) (Zy (bH h fun z3 e3 h=>Z1 (Z4 _ (iz e3 (Zb rfl rfl rfl)) (Z8 rfl (Z2 ?_))))))⟩
    rw [q2] at h
    exact ⟨n1,Nat.lt_succ_self _,z3,l1,h,⟨⟨rfl,rfl,rfl,rfl,trivial⟩,(.one (.app .here) (.one (.app .here) (.one (.app .here) (.one (.app .here) .nil))))⟩⟩
   ·exact Z0l _ rfl<|⟨a2,h,⟨⟨rfl,rfl,trivial⟩,(.o (.o (.o (.o .nil))))⟩⟩
 ·rintro t m ⟨a1,h,hF⟩
  refine Zm hF ?_
  clear hF
  subst q1
  refine Z0<|Z1<|Z4 _ (Z00 (p:=[b6' a1]) rfl .here rfl)<|Zc (Zl (q:=[b6' a1]) rfl rfl rfl rfl rfl .t3<|Z2<|Zf ?_)
  revert h; refine Z01 fun h=>?_
  subst h
  exact ⟨_,_,(.cons (.agg rfl .t3 rfl) .nil),(.one .t2 .nil),⟨_,rfl,⟨rfl,rfl⟩⟩⟩
def Zcj (p0:LI):OL :=
 opt (Zci ) fun y1 =>
 opt (Z1g y1 p0) fun y2 =>
 opt (Z2x y2) fun y3 =>
 some y3.1
theorem Zmj {W:World} {r:(LI)} {p0:LI} {v0:Value} (h:Zcj p0=some r) (hG:Globs W) (A0:Z6m (El.int .u8) W v0 p0) :
    Calls Tryz.prog 111 [v0].toArray W (Z3c W (agg [b6' r])):=by
 unfold Zcj at h
 refine Za mo Z0lb rfl ?_
 refine Z0<|Z1<|Zc (Zu fun b1 u1=>Z2<|Z0<|oH h fun y1 f1 h=>Z1<|Zc (Zk rfl (fun w hw=>Zh2  f1 (hG.at hw (by simp))) fun v5 o1 R1=>?_))
 obtain ⟨b2,T8,rfl,rfl⟩:=R1
 refine Z8 rfl<|Z2<|Z0<|oH h fun y2 f2 h=>Z1<|Z8 rfl<|Z8 rfl<|Zc (Z2z (mS:=[_]) rfl (Z40.perm .here) (fun w hw=>Z68  f2 (Zav hw (mS:=[_]) (Z40.perm .here)) (hG.at hw (by simp)) (hG.ap (by simp) .here hw) ⟨(Z1m A0 Z1u) w hw,(Zlj (E:=(El.int .u8)) A0 .here hw)⟩) fun v11 o2 R2=>?_)
 obtain ⟨rfl,rfl⟩:=R2
 refine Z2<|Z0<|oH h fun y3 f3 h=>Z1<|Z8 rfl<|Zc (Z2z (mS:=[_]) rfl (Z40.perm .here) (fun w hw=>Zae  f3 (Zav hw (mS:=[_]) (Z40.perm .here)) (hG.at hw (by simp)) (hG.ap (by simp) .here hw)) fun v15 o3 R3=>?_)
 obtain ⟨rfl,rfl⟩:=R3
 refine Zc (Zl (q:=[b6' y3.1]) rfl rfl rfl rfl rfl .t1<|Z2<|Zf ?_)
 revert h; refine Z01 fun h=>?_
 subst h
 exact ⟨_,(.cons (.agg rfl .t1 rfl) .nil),rfl⟩
def Zbr (p0:LI):OL :=
 bnd (p0.getD 0 0) fun z1 =>
 bnd (Z7 .andNot .u8 z1 7) fun z2 =>
 bnd (Z3z p0 0 z2) fun l1 =>
 bnd (l1.getD 31 0) fun z3 =>
 bnd (Z7 .and .u8 z3 127) fun z4 =>
 bnd (Z7 .or .u8 z4 64) fun z5 =>
 bnd (Z3z l1 31 z5) fun l2 =>
 some l2
theorem Zk8 {W:World} {r:(LI)} {p0:LI} (h:Zbr p0=some r)  :
    Calls Tryz.prog 112 [agg [b3' p0]].toArray W (Z3c W (agg [b3' r])):=by
 unfold Zbr at h
 refine Za mo Z0lc rfl ?_
 refine Z0<|Z1<|Zc (Z06 (s:=[b3' p0]) rfl fun b1 u1=>Zc (Zu fun b2 u2=>Z2<|Z0<|bH h fun z1 e1 h=>bH h fun z2 e2 h=>bH h fun l1 g1 h=>Z1<|Z4 _ (Z3f rfl rfl (by decide))<|Z4 _ (iz e1 (Z0p rfl .t1 rfl))<|Z4 _ (iz e2 (Zb rfl rfl rfl))<|Z4 _ (Z3f rfl rfl (by decide))<|Zc (Zbx (q:=[b3' l1]) (congrArg (fun z=>([b3' z]:List Seg)) g1.symm) rfl rfl rfl rfl .t1<|Z2<|Z0<|bH h fun z3 e3 h=>bH h fun z4 e4 h=>bH h fun z5 e5 h=>bH h fun l2 g2 h=>Z1<|Z4 _ (Z3f rfl rfl (by decide))<|Z4 _ (iz e3 (Z0p rfl .t1 rfl))<|Z4 _ (iz e4 (Zb rfl rfl rfl))<|Z4 _ (iz e5 (Zb rfl rfl rfl))<|Z4 _ (Z3f rfl rfl (by decide))<|Zc (Zbx (q:=[b3' l2]) (congrArg (fun z=>([b3' z]:List Seg)) g2.symm) rfl rfl rfl rfl .t1<|Z2<|Z0<|Z1<|Z4 _ (Z00 (p:=[b3' l2]) rfl .t1 rfl)<|Zc (Zl (q:=[b3' l2]) rfl rfl rfl rfl rfl .here<|Z2<|Zf ?_)))))
 revert h; refine Z01 fun h=>?_
 subst h
 exact ⟨_,(.cons (.agg rfl .here rfl) .nil),rfl⟩
def Zb1 (p0:LI):Option ((LI)×(LI)) :=
 opt (Zcj (tk p0 0 32)) fun y1 =>
 chk (decide (32<=(tk y1 0 32).length)) <|
 bnd (tk (tk y1 0 32) 0 32) fun z1 =>
 opt (Zbr z1) fun y2 =>
 some (y2,(tk y1 32 (64-32)))
theorem Zfs {W:World} {r:(LI)×(LI)} {p0:LI} (h:Zb1 p0=some r) (hG:Globs W) :
    Calls Tryz.prog 52 [agg [b3' p0]].toArray W (Z8e W [] (fun v Ms=>∃ (u1:Value) (M1:List Ze),v = .tuple #[agg [b3' r.1],u1]/\Ms = [.all M1]/\Z09 (El.int .u8) u1 M1 r.2)):=by
 unfold Zb1 at h
 refine Zs mo ok52 rfl (Zez _) ?_
 refine Z0<|Z1<|Zc (Z06 (s:=[b3' p0]) rfl fun b1 hb1=>Zc (Zu fun b2 hb2=>Z8 rfl<|Z2<|Z0<|oH h fun y1 f1 h=>Z1<|Z4 _ (Z88 rfl .no .no .no (by simp) (by decide))<|Z4 _ (Z0a rfl (fun w hw=>Zmj f1 (hG.at hw (by simp)) ((Z1t (s:=[b3' p0]) (N:=32) (k:=.u8) (base:=0) (lo:=0) (hi:=32) (mz:=32) .t1 rfl (by decide)) w hw)))<|Zc (Zu fun b3 hb3=>Zc (Zl (q:=[b6' y1]) rfl rfl rfl rfl rfl .here<|Z2<|Z0<|cH h fun c1 h=>bH h fun z1 e1 h=>oH h fun y2 f2 h=>Zv<|Z6 _ (Z88 rfl .no (.yes rfl) .no (by simp) (by decide))<|Z6 _ (Zyj rfl (Shp.blk (lo:=0) (hi:=32) (mz:=64) (by decide) (by simp [Z0c])) (by decide) c1)<|Z6 _ (Z88 rfl (.yes rfl) .no .no (by simp) (by decide))<|Zh _ (az (fun z=>agg [.ints .u8 32 z]) e1 (Z06i rfl (Z1t (s:=[b6' y1]) (N:=64) (k:=.u8) (base:=0) (lo:=0) (hi:=32) (mz:=64) .here rfl (by decide)) (by decide) c1))<|Z6 _ (Z1d rfl (Zk8 f2))<|Z1q rfl (Zl (q:=[b3' y2]) rfl rfl rfl rfl rfl .t1<|Z6 _ (Z04 rfl)<|Zy<|Zf ?_)))))
 revert h; refine Z01 fun h=>?_
 subst h
 exact ⟨_,_,(.cons (.agg rfl .t1 rfl) (.cons (.tmp rfl) .nil)),(.o .nil),⟨_,rfl,⟨(.slice (some (Z1y b3 0 32 64 1)) (64-32) (64-32)),[ck b3 212 [b6' y1]],rfl,rfl,(Zj6 (s:=[b6' y1]) (N:=64) (k:=.u8) (base:=0) (lo:=32) (hi:=64) (mz:=64) rfl (by decide))⟩⟩⟩
def Z5n (p0:LI):OL :=
 bnd (p0.getD 0 0) fun z1 =>
 bnd (Z7 .and .u64 z1 2251799813685247) fun z2 =>
 bnd (p0.getD 4 0) fun z3 =>
 bnd (Zr .u64 z3 51) fun z4 =>
 bnd (wrap .u64 (z4*19)) fun z5 =>
 bnd (wrap .u64 (z2+z5)) fun z6 =>
 bnd (p0.getD 1 0) fun z7 =>
 bnd (Z7 .and .u64 z7 2251799813685247) fun z8 =>
 bnd (p0.getD 0 0) fun z9 =>
 bnd (Zr .u64 z9 51) fun z10 =>
 bnd (wrap .u64 (z8+z10)) fun z11 =>
 bnd (p0.getD 2 0) fun z12 =>
 bnd (Z7 .and .u64 z12 2251799813685247) fun z13 =>
 bnd (p0.getD 1 0) fun z14 =>
 bnd (Zr .u64 z14 51) fun z15 =>
 bnd (wrap .u64 (z13+z15)) fun z16 =>
 bnd (p0.getD 3 0) fun z17 =>
 bnd (Z7 .and .u64 z17 2251799813685247) fun z18 =>
 bnd (p0.getD 2 0) fun z19 =>
 bnd (Zr .u64 z19 51) fun z20 =>
 bnd (wrap .u64 (z18+z20)) fun z21 =>
 bnd (p0.getD 4 0) fun z22 =>
 bnd (Z7 .and .u64 z22 2251799813685247) fun z23 =>
 bnd (p0.getD 3 0) fun z24 =>
 bnd (Zr .u64 z24 51) fun z25 =>
 bnd (wrap .u64 (z23+z25)) fun z26 =>
 bnd (([z6,z11,z16,z21,z26]:LI)) fun z27 =>
 some z27
theorem Z55 {W:World} {r:(LI)} {p0:LI} (h:Z5n p0=some r)  :
    Calls Tryz.prog 228 [agg [u5' p0]].toArray W (Z3c W (agg [u5' r])):=by
 unfold Z5n at h
 refine Za mo Z0n1 rfl ?_
 refine Z0<|Z1<|Zc (Z06 (s:=[u5' p0]) rfl fun b1 u1=>Zc (Zu fun b2 u2=>Z2<|Z0<|bH h fun z1 e1 h=>bH h fun z2 e2 h=>bH h fun z3 e3 h=>bH h fun z4 e4 h=>bH h fun z5 e5 h=>bH h fun z6 e6 h=>bH h fun z7 e7 h=>bH h fun z8 e8 h=>bH h fun z9 e9 h=>bH h fun z10 e10 h=>bH h fun z11 e11 h=>bH h fun z12 e12 h=>bH h fun z13 e13 h=>bH h fun z14 e14 h=>bH h fun z15 e15 h=>bH h fun z16 e16 h=>bH h fun z17 e17 h=>bH h fun z18 e18 h=>bH h fun z19 e19 h=>bH h fun z20 e20 h=>bH h fun z21 e21 h=>bH h fun z22 e22 h=>bH h fun z23 e23 h=>bH h fun z24 e24 h=>bH h fun z25 e25 h=>bH h fun z26 e26 h=>bH h fun z27 e27 h=>Z1<|Z4 _ (Z3f rfl rfl (by decide))<|Z4 _ (iz e1 (Z0p rfl .t1 rfl))<|Z4 _ (iz e2 (Zb rfl rfl rfl))<|Z4 _ (Z3f rfl rfl (by decide))<|Z4 _ (iz e3 (Z0p rfl .t1 rfl))<|Z4 _ (iz e4 (Z8w rfl rfl (by decide)))<|Z4 _ (iz e5 (Zb rfl rfl rfl))<|Z4 _ (iz e6 (Zb rfl rfl rfl))<|Z4 _ (Z3f rfl rfl (by decide))<|Z4 _ (iz e7 (Z0p rfl .t1 rfl))<|Z4 _ (iz e8 (Zb rfl rfl rfl))<|Z4 _ (Z3f rfl rfl (by decide))<|Z4 _ (iz e9 (Z0p rfl .t1 rfl))<|Z4 _ (iz e10 (Z8w rfl rfl (by decide)))<|Z4 _ (iz e11 (Zb rfl rfl rfl))<|Z4 _ (Z3f rfl rfl (by decide))<|Z4 _ (iz e12 (Z0p rfl .t1 rfl))<|Z4 _ (iz e13 (Zb rfl rfl rfl))<|Z4 _ (Z3f rfl rfl (by decide))<|Z4 _ (iz e14 (Z0p rfl .t1 rfl))<|Z4 _ (iz e15 (Z8w rfl rfl (by decide)))<|Z4 _ (iz e16 (Zb rfl rfl rfl))<|Z4 _ (Z3f rfl rfl (by decide))<|Z4 _ (iz e17 (Z0p rfl .t1 rfl))<|Z4 _ (iz e18 (Zb rfl rfl rfl))<|Z4 _ (Z3f rfl rfl (by decide))<|Z4 _ (iz e19 (Z0p rfl .t1 rfl))<|Z4 _ (iz e20 (Z8w rfl rfl (by decide)))<|Z4 _ (iz e21 (Zb rfl rfl rfl))<|Z4 _ (Z3f rfl rfl (by decide))<|Z4 _ (iz e22 (Z0p rfl .t1 rfl))<|Z4 _ (iz e23 (Zb rfl rfl rfl))<|Z4 _ (Z3f rfl rfl (by decide))<|Z4 _ (iz e24 (Z0p rfl .t1 rfl))<|Z4 _ (iz e25 (Z8w rfl rfl (by decide)))<|Z4 _ (iz e26 (Zb rfl rfl rfl))<|Z4 _ (az (fun z=>agg [.ints .u64 5 z]) e27 (Zcd (.one rfl rfl rfl (.one rfl rfl rfl (.one rfl rfl rfl (.one rfl rfl rfl (.one rfl rfl rfl BdR.nil)))))))<|Zc (Zl (q:=[u5' z27]) rfl rfl rfl rfl rfl .here<|Z2<|Zf ?_)))
 revert h; refine Z01 fun h=>?_
 subst h
 exact ⟨_,(.cons (.agg rfl .here rfl) .nil),rfl⟩
def Zcs (y1:(LI)) (k1:Int->OL) (k2:Int->Int->OL) (i1:Int) (i2:Int):OL :=
 br ((decide (i2<4))) (
 chk (inB i2 (tk y1 1 (5-1)).length) <|
 bnd ((tk y1 1 (5-1)).getD (i2).toNat 0) fun z1 =>
 bnd (wrap .u64 (z1+i1)) fun z2 =>
 bnd (Zr .u64 z2 51) fun z3 =>
 bnd (wrap .i64 (i2+1)) fun z4 =>
 k2 z3 z4
 ) (
 k1 i1
 )
def Z61 (y1:(LI)) (k1:Int->OL):Nat->Int->Int->OL
  | 0,_,_=>none
  | n+1,i1,i2=>Zcs y1 k1 (Z61 y1 k1 n) i1 i2
def Zct (k1:(LI)->OL) (k2:Int->(LI)->OL) (i1:Int) (a1:LI):OL :=
 br ((decide (i1<4))) (
 bnd (wrap .i64 (i1+1)) fun z1 =>
 chk (inB z1 5) <|
 chk (inB i1 5) <|
 bnd (a1.getD (z1).toNat 0) fun z2 =>
 bnd (a1.getD (i1).toNat 0) fun z3 =>
 bnd (Zr .u64 z3 51) fun z4 =>
 bnd (wrap .u64 (z2+z4)) fun z5 =>
 chk (inB z1 5) <|
 bnd (Z3z a1 (z1).toNat z5) fun l1 =>
 chk (inB i1 5) <|
 bnd (l1.getD (i1).toNat 0) fun z6 =>
 bnd (Z7 .and .u64 z6 2251799813685247) fun z7 =>
 chk (inB i1 5) <|
 bnd (Z3z l1 (i1).toNat z7) fun l2 =>
 bnd (wrap .i64 (i1+1)) fun z8 =>
 k2 z8 l2
 ) (
 k1 a1
 )
def Z62 (k1:(LI)->OL):Nat->Int->(LI)->OL
  | 0,_,_=>none
  | n+1,i1,a1=>Zct k1 (Z62 k1 n) i1 a1
def Z1k (p0:LI):OL :=
 opt (Z5n p0) fun y1 =>
 opt (Z5n y1) fun y2 =>
 bnd (y2.getD 0 0) fun z1 =>
 bnd (wrap .u64 (z1+19)) fun z2 =>
 bnd (Zr .u64 z2 51) fun z3 =>
 jn (fun (i1:Int)=>bnd (y2.getD 0 0) fun z4 =>
 bnd (wrap .u64 (19*i1)) fun z5 =>
 bnd (wrap .u64 (z4+z5)) fun z6 =>
 bnd (Z3z y2 0 z6) fun l1 =>
 jn (fun (a1:LI)=>bnd (a1.getD 4 0) fun z7 =>
 bnd (Z7 .and .u64 z7 2251799813685247) fun z8 =>
 bnd (Z3z a1 4 z8) fun l2 =>
 some l2) fun k1=>Z62 k1 big 0 l1) fun k2=>Z61 y2 k2 big z3 0
theorem Z0z {W:World} {r:(LI)} {p0:LI} (h:Z1k p0=some r)  :
    Calls Tryz.prog 227 [agg [u5' p0]].toArray W (Z3c W (agg [u5' r])):=by
 unfold Z1k at h
 refine Za mo Z0n0 rfl ?_
 refine Z0<|Z1<|Zc (Z06 (s:=[u5' p0]) rfl fun b1 u1=>Zc (Zu fun b2 u2=>Z2<|Z0<|oH h fun y1 f1 h=>oH h fun y2 f2 h=>Z1<|Z4 _ (Z00 (p:=[u5' p0]) rfl .t1 rfl)<|Z4 _ (Z1d rfl (Z55 f1))<|Z4 _ (Z1d rfl (Z55 f2))<|Zc (Zl (q:=[u5' y2]) rfl rfl rfl rfl rfl .t1<|Z2<|Z0<|bH h fun z1 e1 h=>bH h fun z2 e2 h=>bH h fun z3 e3 h=>Z1<|Z4 _ (Z3f rfl rfl (by decide))<|Z4 _ (iz e1 (Z0p rfl .t1 rfl))<|Z4 _ (iz e2 (Zb rfl rfl rfl))<|Z4 _ (iz e3 (Z8w rfl rfl (by decide)))<|Z8 rfl<|Z2<|Z0<|Z0<|Z1<|Z4 _ (Z88 rfl (.yes rfl) .no .no (by simp) (by decide))<|Z4 _ (Z01i rfl)<|Z8 rfl<|Z2<|jH h fun k1 q1 h=>Zo (G:=fun t m=>∃ (i1:Int),k1 i1=some r/\Fit [(1,pt' b1),(2,pt' b2),(3,.int .u64 (i1))] (ck b2 124 [u5' (replicate 5 0)]::(ck b1 124 [u5' y2] :: [])) t m) ?_ ?_)))
 ·refine Zd<|Z07 (fun n1 t m=>∃ (i2:Int) (i3:Int),Z61 y2 k1 n1 i2 i3=some r/\Fit [(1,pt' b1),(2,pt' b2),(3,.int .u64 (i2)),(14,(.slice (some (Z1y b1 0 1 5 1)) (5-1) (5-1))),(15,.int .i64 4),(16,.int .i64 (i3))] (ck b2 124 [u5' (replicate 5 0)]::(ck b1 124 [u5' y2] :: [])) t m) big ?_ ?_
  ·exact ⟨z3,0,h,⟨⟨rfl,rfl,rfl,rfl,rfl,rfl,trivial⟩,(.o (.o .nil))⟩⟩
  ·rintro n1 t m ⟨i2,i3,h,hF⟩
   refine Zm hF ?_
   clear hF
   rcases n1 with _ | n1
   · exact Z1r h
   have h:Zcs y2 k1 (Z61 y2 k1 n1) i2 i3=some r:=h
   unfold Zcs at h
   obtain ⟨k2,q2⟩ : ∃ k,k=Z61 y2 k1 n1:=⟨_,rfl⟩
   try rw [<- q2] at h
   refine Z0<|Z1<|Z4 _ (Zb rfl rfl rfl)<|Z2<|Z0<|Z0r h rfl (fun h=>?_) (fun h=>?_)
   ·refine Zn<|Z0<|Zd<|Z0<|cH h fun c1 h=>bH h fun z4 e4 h=>Z1<|Z4 _ (Z7u rfl rfl (Shp.blk (lo:=1) (hi:=5) (mz:=5) (by decide) (by simp [Z0c])) c1)<|Z4 _ (iz e4 (Zaq (E:=(El.int .u64)) (s:=[.one (.int .u64 ((tk y2 1 (5-1)).getD (i3).toNat 0))]) rfl (Z1t (s:=[u5' y2]) (N:=5) (k:=.u64) (base:=0) (lo:=1) (hi:=5) (mz:=5) .t1 rfl (by decide)) (Z1i c1) rfl rfl))<|Z8 rfl<|Z2<|bH h fun z5 e5 h=>bH h fun z6 e6 h=>Z1<|Z8 rfl<|Z8 rfl<|Z4 _ (iz e5 (Zb rfl rfl rfl))<|Z4 _ (iz e6 (Z8w rfl rfl (by decide)))<|Z8 rfl<|Z2<|bH h fun z7 e7 h=>Z1<|Z4 _ (iz e7 (Zb rfl rfl rfl))<|Z8 rfl<|Z2 ?_
    rw [q2] at h
    exact ⟨n1,Nat.lt_succ_self _,z6,z7,h,⟨⟨rfl,rfl,rfl,rfl,rfl,rfl,trivial⟩,(.o (.o .nil))⟩⟩
   ·exact Z0l _ rfl<|⟨i2,h,⟨⟨rfl,rfl,rfl,trivial⟩,(.o (.o .nil))⟩⟩
 ·rintro t m ⟨i1,h,hF⟩
  refine Zm hF ?_
  clear hF
  subst q1
  refine Z0<|bH h fun z8 e8 h=>bH h fun z9 e9 h=>bH h fun z10 e10 h=>bH h fun l1 g1 h=>Z1<|Z4 _ (Z3f rfl rfl (by decide))<|Z4 _ (iz e8 (Z0p rfl .t1 rfl))<|Z8 rfl<|Z4 _ (iz e9 (Zb rfl rfl rfl))<|Z4 _ (iz e10 (Zb rfl rfl rfl))<|Z4 _ (Z3f rfl rfl (by decide))<|Zc (Zbx (q:=[u5' l1]) (congrArg (fun z=>([u5' z]:List Seg)) g1.symm) rfl rfl rfl rfl .t1<|Z2<|Z0<|Z0<|Z1<|Z8 rfl<|Z2<|jH h fun k3 q3 h=>Zo (G:=fun t m=>∃ (a1:LI),k3 a1=some r/\Fit [(1,pt' b1),(2,pt' b2)] (ck b2 124 [u5' (replicate 5 0)]::(ck b1 124 [u5' a1] :: [])) t m) ?_ ?_)
  ·refine Zd<|Z07 (fun n2 t m=>∃ (i4:Int) (a2:LI),Z62 k3 n2 i4 a2=some r/\Fit [(1,pt' b1),(2,pt' b2),(31,.int .i64 (i4))] (ck b2 124 [u5' (replicate 5 0)]::(ck b1 124 [u5' a2] :: [])) t m) big ?_ ?_
   ·exact ⟨0,l1,h,⟨⟨rfl,rfl,rfl,trivial⟩,(.o (.o .nil))⟩⟩
   ·rintro n2 t m ⟨i4,a2,h,hF⟩
    refine Zm hF ?_
    clear hF
    rcases n2 with _ | n2
    · exact Z1r h
    have h:Zct k3 (Z62 k3 n2) i4 a2=some r:=h
    unfold Zct at h
    obtain ⟨k4,q4⟩ : ∃ k,k=Z62 k3 n2:=⟨_,rfl⟩
    try rw [<- q4] at h
    refine Z0<|Z1<|Z4 _ (Zb rfl rfl rfl)<|Z2<|Z0<|Z0r h rfl (fun h=>?_) (fun h=>?_)
    ·refine Zn<|Z0<|Zd<|Z0<|Z1<|Z8 rfl<|Z8 rfl<|Z2<|Z0<|bH h fun z11 e11 h=>cH h fun c2 h=>cH h fun c3 h=>bH h fun z12 e12 h=>bH h fun z13 e13 h=>bH h fun z14 e14 h=>bH h fun z15 e15 h=>cH h fun c4 h=>bH h fun l2 g2 h=>Zv<|Z6 _ (Z04 rfl)<|Z6 _ (iz e11 (Zb rfl rfl rfl))<|Z6 _ (Z3f rfl rfl (Z1w c2))<|Z6 _ (Z04 rfl)<|Z6 _ (Z3f rfl rfl (Z1w c3))<|Zh _ (iz e12 (Z9f (base:=0) rfl .t1 rfl (Z1i c2)))<|Zh _ (iz e13 (Z9f (base:=0) rfl .t1 rfl (Z1i c3)))<|Z6 _ (iz e14 (Z8w rfl rfl (by decide)))<|Z6 _ (iz e15 (Zb rfl rfl rfl))<|Z6 _ (Z3f rfl rfl (Z1w c4))<|Z1q rfl (Z5x (q:=[u5' l2]) (base:=0) g2 rfl rfl rfl (Z1i c4) rfl .t1<|Zy<|cH h fun c5 h=>bH h fun z16 e16 h=>bH h fun z17 e17 h=>cH h fun c6 h=>bH h fun l3 g3 h=>Z1<|Z8 rfl<|Z4 _ (Z3f rfl rfl (Z1w c5))<|Z4 _ (iz e16 (Z9f (base:=0) rfl .t1 rfl (Z1i c5)))<|Z4 _ (iz e17 (Zb rfl rfl rfl))<|Z4 _ (Z3f rfl rfl (Z1w c6))<|Zc (Z5x (q:=[u5' l3]) (base:=0) g3 rfl rfl rfl (Z1i c6) rfl .t1<|Z2<|bH h fun z18 e18 h=>Z1<|Z4 _ (iz e18 (Zb rfl rfl rfl))<|Z8 rfl<|Z2 ?_))
     rw [q4] at h
     exact ⟨n2,Nat.lt_succ_self _,z18,l3,h,⟨⟨rfl,rfl,rfl,trivial⟩,(.o (.o .nil))⟩⟩
    ·exact Z0l _ rfl<|⟨a2,h,⟨⟨rfl,rfl,trivial⟩,(.o (.o .nil))⟩⟩
  ·rintro t m ⟨a1,h,hF⟩
   refine Zm hF ?_
   clear hF
   subst q3
   refine Z0<|bH h fun z19 e19 h=>bH h fun z20 e20 h=>bH h fun l4 g4 h=>Z1<|Z4 _ (Z3f rfl rfl (by decide))<|Z4 _ (iz e19 (Z0p rfl .t1 rfl))<|Z4 _ (iz e20 (Zb rfl rfl rfl))<|Z4 _ (Z3f rfl rfl (by decide))<|Zc (Zbx (q:=[u5' l4]) (congrArg (fun z=>([u5' z]:List Seg)) g4.symm) rfl rfl rfl rfl .t1<|Z2<|Z0<|Z1<|Z4 _ (Z00 (p:=[u5' l4]) rfl .t1 rfl)<|Zc (Zl (q:=[u5' l4]) rfl rfl rfl rfl rfl .here<|Z2<|Zf ?_))
   revert h; refine Z01 fun h=>?_
   subst h
   exact ⟨_,(.cons (.agg rfl .here rfl) .nil),rfl⟩
def Z63 (p0:Int) (p1:Int):Option (Int×Int) :=
 bnd (Z7 .and .u64 p0 4294967295) fun z1 =>
 bnd (Zr .u64 p0 32) fun z2 =>
 bnd (Z7 .and .u64 p1 4294967295) fun z3 =>
 bnd (Zr .u64 p1 32) fun z4 =>
 bnd (wrap .u64 (z1*z3)) fun z5 =>
 bnd (wrap .u64 (z2*z3)) fun z6 =>
 bnd (Zr .u64 z5 32) fun z7 =>
 bnd (wrap .u64 (z6+z7)) fun z8 =>
 bnd (Z7 .and .u64 z8 4294967295) fun z9 =>
 bnd (Zr .u64 z8 32) fun z10 =>
 bnd (wrap .u64 (z1*z4)) fun z11 =>
 bnd (wrap .u64 (z9+z11)) fun z12 =>
 bnd (wrap .u64 (z2*z4)) fun z13 =>
 bnd (wrap .u64 (z13+z10)) fun z14 =>
 bnd (Zr .u64 z12 32) fun z15 =>
 bnd (wrap .u64 (z14+z15)) fun z16 =>
 bnd (wrap .u64 (p0*p1)) fun z17 =>
 some (z16,z17)
theorem Zc3 {W:World} {r:Int×Int} {p0:Int} {p1:Int} (h:Z63 p0 p1=some r)  :
    Calls Tryz.prog 325 [.int .u64 (p0),.int .u64 (p1)].toArray W (Z3c W (.tuple #[.int .u64 (r.1),.int .u64 (r.2)])):=by
 unfold Z63 at h
 refine Za mo Z0oe rfl ?_
 refine Z0<|Z1<|Z8 rfl<|Z8 rfl<|Z2<|Z0<|bH h fun z1 e1 h=>Z1<|Z8 rfl<|Z4 _ (iz e1 (Zb rfl rfl rfl))<|Z8 rfl<|Z2<|Z0<|bH h fun z2 e2 h=>Z1<|Z8 rfl<|Z4 _ (iz e2 (Z8w rfl rfl (by decide)))<|Z8 rfl<|Z2<|Z0<|bH h fun z3 e3 h=>Z1<|Z8 rfl<|Z4 _ (iz e3 (Zb rfl rfl rfl))<|Z8 rfl<|Z2<|Z0<|bH h fun z4 e4 h=>Z1<|Z8 rfl<|Z4 _ (iz e4 (Z8w rfl rfl (by decide)))<|Z8 rfl<|Z2<|Z0<|bH h fun z5 e5 h=>Z1<|Z8 rfl<|Z8 rfl<|Z4 _ (iz e5 (Zb rfl rfl rfl))<|Z8 rfl<|Z2<|Z0<|bH h fun z6 e6 h=>bH h fun z7 e7 h=>bH h fun z8 e8 h=>Z1<|Z8 rfl<|Z8 rfl<|Z4 _ (iz e6 (Zb rfl rfl rfl))<|Z8 rfl<|Z4 _ (iz e7 (Z8w rfl rfl (by decide)))<|Z4 _ (iz e8 (Zb rfl rfl rfl))<|Z8 rfl<|Z2<|Z0<|bH h fun z9 e9 h=>Z1<|Z8 rfl<|Z4 _ (iz e9 (Zb rfl rfl rfl))<|Z8 rfl<|Z2<|Z0<|bH h fun z10 e10 h=>Z1<|Z8 rfl<|Z4 _ (iz e10 (Z8w rfl rfl (by decide)))<|Z8 rfl<|Z2<|Z0<|bH h fun z11 e11 h=>bH h fun z12 e12 h=>Z1<|Z8 rfl<|Z8 rfl<|Z8 rfl<|Z4 _ (iz e11 (Zb rfl rfl rfl))<|Z4 _ (iz e12 (Zb rfl rfl rfl))<|Z8 rfl<|Z2<|Z0<|bH h fun z13 e13 h=>bH h fun z14 e14 h=>bH h fun z15 e15 h=>bH h fun z16 e16 h=>Z1<|Z8 rfl<|Z8 rfl<|Z4 _ (iz e13 (Zb rfl rfl rfl))<|Z8 rfl<|Z4 _ (iz e14 (Zb rfl rfl rfl))<|Z8 rfl<|Z4 _ (iz e15 (Z8w rfl rfl (by decide)))<|Z4 _ (iz e16 (Zb rfl rfl rfl))<|Z8 rfl<|Z2<|Z0<|bH h fun z17 e17 h=>Z1<|Z8 rfl<|Z8 rfl<|Z4 _ (iz e17 (Zb rfl rfl rfl))<|Z8 rfl<|Z2<|Zf ?_
 revert h; refine Z01 fun h=>?_
 subst h
 exact ⟨_,(.cons (.tmp rfl) (.cons (.tmp rfl) .nil)),rfl⟩
end Go.Proofs.YteefpkhngighgaaGreatDoor
