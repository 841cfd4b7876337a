/- Texts of the proof: what functions of the program compute, step by step. No conditions of its own. -/
import Derived.Test.YtgenoggafhhgfaaGreatDoorChecked
import Derived.Test.YtgenoggafhhgfaaGreatDoorF6
import Derived.KernelRfl
import Derived.Test.YtgenoggafhhgfaaGreatDoorF4
import Derived.Tactics
import Derived.Tactics2
import Derived.Defers
import Derived.Recover
import Derived.Laws.Pointers
import Derived.Shelf.Lay
import Derived.Shelf.LaySoft
import Derived.Shelf.Strings.Fields
import Derived.Test.YtgenoggafhhgfaaGreatDoorProg
import Derived.Below
set_option linter.unusedVariables false
set_option linter.unusedSimpArgs false
namespace Go.AI
open Go Go.Proofs
set_option maxRecDepth 100000
noncomputable def af128:AFunc:=cZ Tryz.prog Z0 Tryz.f128
theorem good128:Good Tryz.prog (128,af128):=mkC Z0 Tryz.func128 (by kernel_rfl)
def af129:AFunc:=⟨9,2,[.tmp 3],
 (.seq (rg [oq 2 (.box (tm 0)) [3]] [1,2])
 (.seq (rg [oq 4 (.addOff 0 (tm 2)) [8],ld 5 4,ao 6 2 1,ld 7 6,op 3 (ar .eql (tm 5) (tm 7))] [3])
 .ret))⟩
theorem good129:Good Tryz.prog (129,af129):=mkK Z0 Tryz.func129 (by kernel_rfl)
def af130:AFunc:=⟨35,3,[.tmp 6],
 (.seq (rg [oq 3 (.box (tm 0)) [6],op 4 (.box (tm 1)),op 5 (.box (tm 2))] [3,4,5])
 (.seq (rg [ld 7 3,op 8 (.nilCheck (tm 7)),ao 9 0 8,ld 10 9,op 11 (ar .sub (tm 10) (zi 1)),op 12 (.nilCheck (tm 7)),ao 13 0 12,on (.store 1 (tm 13) (tm 11))] [3,4,5])
 (.seq (dr [lq 14 3,lq 15 3,oq 16 (.nilCheck (tm 15)) [15],aq 17 1 16,lq 18 17,lq 19 5,oq 20 (.max2 [(tm 18),(tm 19)]) [18,19],oq 21 (.nilCheck (tm 14)) [14],aq 22 1 21,om (.store 1 (tm 22) (tm 20)) [22,20]] [0,0,2,6,14,0,62,127,255,511] [3,4,5])
 (.seq (.seq (rg [oq 23 (l1 (tm 3)) [31],op 24 (.nilCheck (tm 23)),ao 25 0 24,ld 26 25,op 28 (ar .lss (tm 26) (zi 0)),gf 29 28 (l1 (tm 5)) [],gf 30 28 (ar .gtr (tm 29) (zi 200)) [],op 31 (.pick (tm 28) (.lit (.bool true)) (tm 30))] [3,4,5,31])
 (.cond (tm 31) (.seq (rg [op 6 (.mv (.lit (.bool false)))] [6])
 .ret)
 .skip))
 (.seq (rg [oq 32 (.load true 7 (tm 4)) [34],op 33 (.mkFunc 173 [] [(tm 3),(tm 5)]),op 6 (.call (.fn 172) [(tm 32),(tm 33)])] [6])
 .ret)))))⟩
theorem good130:Good Tryz.prog (130,af130):=mkK Z0 Tryz.func130 (by kernel_rfl)
def af131:AFunc:=⟨12,1,[.tmp 2],
 (.seq (rg [oq 1 (.box (tm 0)) [2]] [1])
 (.seq (rg [op 4 (.load true 7 (tm 1)),op 5 (.call (.fn 174) [(tm 4)]),op 3 (.alloc [(.int .i64 0)]),on (.store 1 (tm 3) (tm 5))] [1,3])
 (.seq (.seq (rg [ld 6 3,op 7 (ar .eql (tm 6) (zi 0))] [1,3,7])
 (.cond (tm 7) (rg [op 8 (.load true 7 (tm 1)),op 9 (.mkFunc 175 [] [(tm 3)]),op 10 (.call (.fn 172) [(tm 8),(tm 9)])] [3])
 .skip))
 (.seq (rg [oq 2 (l1 (tm 3)) [11]] [2])
 .ret))))⟩
theorem good131:Good Tryz.prog (131,af131):=mkK Z0 Tryz.func131 (by kernel_rfl)
def lp132_0:ACode:=
 (.seq (.seq (rg [oq 23 (ar .lss (tm 8) (tm 7)) [26],gt 24 23 (.mv (tm 1)) [],gt 25 23 (ar .geq (tm 24) (zi 0)) [],op 26 (.pick (tm 23) (tm 25) (.lit (.bool false)))] [1,2,3,7,8,26])
 (.cond (tm 26) .skip
 (.exit 0)))
 (.seq (.block 1 (.seq (rg [oq 30 (.addOff 5 (tm 3)) [33],ld 31 30,op 32 (.len false (tm 31)),op 33 (ar .lss (tm 8) (tm 32))] [1,2,3,7,8,33])
 (.cond (tm 33) (rg [oq 34 (.addOff 5 (tm 3)) [42],ld 35 34,op 37 (.indexAddrS 7 (tm 35) (tm 8)),op 38 (.load true 7 (tm 37)),op 39 (.mv (tm 1)),op 41 (ar .sub (tm 2) (zi 1)),op 1 (.call (.fn 132) [(tm 38),(tm 39),(tm 41)])] [1,2,3,7,8])
 (rg [oq 43 (.addOff 6 (tm 3)) [56],ld 44 43,ao 46 5 3,ld 47 46,op 48 (.len false (tm 47)),op 49 (ar .sub (tm 8) (tm 48)),op 50 (.indexAddrS 9 (tm 44) (tm 49)),ao 51 2 50,op 52 (.load true 7 (tm 51)),op 53 (.mv (tm 1)),op 55 (ar .sub (tm 2) (zi 1)),op 1 (.call (.fn 132) [(tm 52),(tm 53),(tm 55)])] [1,2,3,7,8]))))
 (rg [oq 27 (.mv (tm 8)) [28],op 8 (ar .add (tm 27) (zi 1))] [1,2,3,7,8])))
def af132:AFunc:=⟨58,3,[.tmp 6],
 (.seq (rg [oq 3 (.box (tm 0)) [6]] [1,2,3])
 (.seq (rg [oq 9 (.mv (tm 1)) [10],op 1 (ar .sub (tm 9) (zi 1))] [1,2,3])
 (.seq (.seq (rg [oq 12 (ar .lss (tm 2) (zi 1)) [12]] [1,2,3,12])
 (.cond (tm 12) (.seq (rg [op 6 (.mv (zi (-1)))] [6])
 .ret)
 .skip))
 (.seq (rg [oq 13 (.addOff 5 (tm 3)) [19],ld 14 13,op 15 (.len false (tm 14)),ao 16 6 3,ld 17 16,op 18 (.len false (tm 17)),op 7 (ar .add (tm 15) (tm 18))] [1,2,3,7])
 (.seq (.seq (rg [op 8 (.mv (zi 0))] [1,2,3,7,8])
 (.block 0 (.loop lp132_0)))
 (.seq (rg [oq 6 (.mv (tm 1)) [57]] [6])
 .ret))))))⟩
theorem good132:Good Tryz.prog (132,af132):=mkK Z0 Tryz.func132 (by kernel_rfl)
def lp133_0:ACode:=
 (.seq (.seq (rg [oq 49 (.addOff 1 (tm 5)) [52],ld 50 49,op 51 (.len false (tm 50)),op 52 (ar .lss (tm 6) (tm 51))] [1,4,5,6,52])
 (.cond (tm 52) .skip
 (.exit 2)))
 (.seq (.block 3 (.seq (rg [oq 55 (.addOff 1 (tm 5)) [60],ld 56 55,op 58 (.indexAddrS 6 (tm 56) (tm 6)),op 59 (.load true 6 (tm 58)),op 7 (.call (.fn 178) [(tm 59)])] [1,4,5,6,7])
 (.seq (rg [oq 62 (ar .neq (tm 7) (zi 0)) [62]] [1,4,5,6,7,62])
 (.cond (tm 62) (.seq (rg [oq 2 (.mv (tm 7)) [63]] [2])
 .ret)
 .skip))))
 (rg [oq 53 (.mv (tm 6)) [54],op 6 (ar .add (tm 53) (zi 1))] [1,4,5,6])))
def lp133_1:ACode:=
 (.seq (.seq (rg [oq 29 (.addOff 2 (tm 1)) [32],ld 30 29,op 31 (.len false (tm 30)),op 32 (ar .lss (tm 4) (tm 31))] [1,4,32])
 (.cond (tm 32) .skip
 (.exit 0)))
 (.seq (.block 1 (.seq (rg [oq 35 (.addOff 2 (tm 1)) [39],ld 36 35,op 38 (.indexAddrS 2 (tm 36) (tm 4)),op 39 (.load true 2 (tm 38)),op 5 (.alloc z2a),on (.store 2 (tm 5) (tm 39))] [1,4,5])
 (.seq (.seq (rg [ao 40 1 5,ld 41 40,op 42 (.len false (tm 41)),op 43 (ar .gtr (tm 42) (zi 4))] [1,4,5,43])
 (.cond (tm 43) (.seq (rg [op 2 (.mv (zi 3))] [2])
 .ret)
 .skip))
 (.seq (.seq (rg [ao 44 0 5,ld 45 44,op 46 (.call (.fn 176) [(tm 45)]),op 47 (.not (tm 46))] [1,4,5,47])
 (.cond (tm 47) (.seq (rg [op 2 (.mv (zi 4))] [2])
 .ret)
 .skip))
 (.seq (rg [op 6 (.mv (zi 0))] [1,4,5,6])
 (.block 2 (.loop lp133_0)))))))
 (rg [oq 33 (.mv (tm 4)) [34],op 4 (ar .add (tm 33) (zi 1))] [1,4])))
def af133:AFunc:=⟨64,1,[.tmp 2],
 (.seq (rg [oq 1 (.box (tm 0)) [2]] [1])
 (.seq (.seq (rg [oq 8 (.addOff 1 (tm 1)) [17],ld 9 8,op 10 (.len false (tm 9)),op 12 (ar .gtr (tm 10) (zi 4)),gf 13 12 (.addOff 2 (tm 1)) [],gf 14 12 (l1 (tm 13)) [],gf 15 12 (.len false (tm 14)) [],gf 16 12 (ar .gtr (tm 15) (zi 8)) [],op 17 (.pick (tm 12) (.lit (.bool true)) (tm 16))] [1,17])
 (.cond (tm 17) (.seq (rg [op 2 (.mv (zi 3))] [2])
 .ret)
 .skip))
 (.seq (.seq (rg [ao 18 0 1,ld 19 18,op 20 (.call (.fn 176) [(tm 19)]),op 21 (.not (tm 20))] [1,21])
 (.cond (tm 21) (.seq (rg [op 2 (.mv (zi 4))] [2])
 .ret)
 .skip))
 (.seq (.seq (rg [oq 22 (.addOff 1 (tm 1)) [24],ld 23 22,op 3 (.call (.fn 177) [(tm 23)])] [1,3])
 (.seq (rg [oq 26 (ar .neq (tm 3) (zi 0)) [26]] [1,3,26])
 (.cond (tm 26) (.seq (rg [oq 2 (.mv (tm 3)) [27]] [2])
 .ret)
 .skip)))
 (.seq (.seq (rg [op 4 (.mv (zi 0))] [1,4])
 (.block 0 (.loop lp133_1)))
 (.seq (rg [op 2 (.mv (zi 0))] [2])
 .ret))))))⟩
theorem good133:Good Tryz.prog (133,af133):=mkK Z0 Tryz.func133 (by kernel_rfl)
def lp134_0:ACode:=
 (.seq (.seq (rg [oq 15 (.addOff 1 (tm 1)) [18],ld 16 15,op 17 (.len false (tm 16)),op 18 (ar .lss (tm 3) (tm 17))] [1,3,18])
 (.cond (tm 18) .skip
 (.exit 0)))
 (.seq (.block 1 (.seq (.seq (rg [oq 21 (.addOff 1 (tm 1)) [28],ld 22 21,op 24 (.indexAddrS 14 (tm 22) (tm 3)),ao 25 0 24,ld 26 25,op 27 (.call (.fn 135) [(tm 26)]),op 28 (.not (tm 27))] [1,3,28])
 (.cond (tm 28) (.seq (rg [op 2 (.mv (zi 4))] [2])
 .ret)
 .skip))
 (.seq (.seq (rg [oq 29 (.addOff 1 (tm 1)) [35],ld 30 29,op 32 (.indexAddrS 14 (tm 30) (tm 3)),ao 33 1 32,op 34 (.load true 6 (tm 33)),op 4 (.call (.fn 178) [(tm 34)])] [1,3,4])
 (.seq (rg [oq 37 (ar .neq (tm 4) (zi 0)) [37]] [1,3,4,37])
 (.cond (tm 37) (.seq (rg [oq 2 (.mv (tm 4)) [38]] [2])
 .ret)
 .skip)))
 (.seq (rg [oq 39 (.addOff 1 (tm 1)) [45],ld 40 39,op 42 (.indexAddrS 14 (tm 40) (tm 3)),ao 43 7 42,op 44 (.load true 6 (tm 43)),op 5 (.call (.fn 178) [(tm 44)])] [1,3,5])
 (.seq (rg [oq 47 (ar .neq (tm 5) (zi 0)) [47]] [1,3,5,47])
 (.cond (tm 47) (.seq (rg [oq 2 (.mv (tm 5)) [48]] [2])
 .ret)
 .skip))))))
 (rg [oq 19 (.mv (tm 3)) [20],op 3 (ar .add (tm 19) (zi 1))] [1,3])))
def af134:AFunc:=⟨49,1,[.tmp 2],
 (.seq (rg [oq 1 (.box (tm 0)) [2]] [1])
 (.seq (.seq (rg [ao 6 1 1,ld 7 6,op 8 (.len false (tm 7)),op 9 (ar .gtr (tm 8) (zi 8))] [1,9])
 (.cond (tm 9) (.seq (rg [op 2 (.mv (zi 3))] [2])
 .ret)
 .skip))
 (.seq (.seq (rg [ao 10 0 1,ld 11 10,op 12 (.call (.fn 176) [(tm 11)]),op 13 (.not (tm 12))] [1,13])
 (.cond (tm 13) (.seq (rg [op 2 (.mv (zi 4))] [2])
 .ret)
 .skip))
 (.seq (.seq (rg [op 3 (.mv (zi 0))] [1,3])
 (.block 0 (.loop lp134_0)))
 (.seq (rg [op 2 (.mv (zi 0))] [2])
 .ret)))))⟩
theorem good134:Good Tryz.prog (134,af134):=mkK Z0 Tryz.func134 (by kernel_rfl)
def af135:AFunc:=⟨11,1,[.tmp 2],
 (.seq (rg [op 2 (.mv (tm 2))] [0])
 (.seq (rg [oq 5 (.call (.fn 179) [(tm 0),(.lit (.int .u8 97)),(.lit (.int .u8 122)),(.lit (.bool true))]) [10],gt 6 5 (.call (.fn 180) []) [],gt 7 5 (.mv (tm 0)) [],gt 8 5 (.call (.fn 122) [(tm 6),(tm 7)]) [],gt 9 5 (.not (tm 8)) [],op 2 (.pick (tm 5) (tm 9) (.lit (.bool false)))] [2])
 .ret))⟩
theorem good135:Good Tryz.prog (135,af135):=mkK Z0 Tryz.func135 (by kernel_rfl)
def lp136_0:ACode:=
 (.seq (.seq (rg [oq 16 (.len false (tm 4)) [17],op 17 (ar .lss (tm 5) (tm 16))] [4,5,17])
 (.cond (tm 17) .skip
 (.exit 0)))
 (.seq (.block 1 (.seq (rg [oq 22 (.indexAddrS 7 (tm 4) (tm 5)) [24],op 23 (.load true 7 (tm 22)),op 6 (.call (.fn 136) [(tm 23)])] [4,5,6])
 (.seq (rg [oq 26 (ar .neq (tm 6) (zi 0)) [26]] [4,5,6,26])
 (.cond (tm 26) (.seq (rg [oq 2 (.mv (tm 6)) [27]] [2])
 .ret)
 .skip))))
 (rg [oq 18 (.mv (tm 5)) [19],op 5 (ar .add (tm 18) (zi 1))] [4,5])))
def af136:AFunc:=⟨28,1,[.tmp 2],
 (.seq (rg [oq 1 (.box (tm 0)) [2]] [1])
 (.seq (.seq (rg [oq 7 (.load true 7 (tm 1)) [8],op 3 (.call (.fn 181) [(tm 7)])] [1,3])
 (.seq (rg [oq 10 (ar .neq (tm 3) (zi 0)) [10]] [1,3,10])
 (.cond (tm 10) (.seq (rg [oq 2 (.mv (tm 3)) [11]] [2])
 .ret)
 .skip)))
 (.seq (rg [oq 12 (.load true 7 (tm 1)) [13],op 4 (.call (.fn 52) [(tm 12)])] [4])
 (.seq (.seq (rg [op 5 (.mv (zi 0))] [4,5])
 (.block 0 (.loop lp136_0)))
 (.seq (rg [op 2 (.mv (zi 0))] [2])
 .ret)))))⟩
theorem good136:Good Tryz.prog (136,af136):=mkK Z0 Tryz.func136 (by kernel_rfl)
def af137:AFunc:=⟨6,1,[.tmp 2],
 (.seq (rg [op 2 (.mv (tm 2))] [0])
 (.seq (rg [oq 3 (.buildSlice 1 3 [(.str [])] [(0,(.lit (.str [73,110,116]))),(1,(.lit (.str [66,111,111,108]))),(2,(.lit (.str [85,110,105,116])))]) [5],op 2 (.call (.fn 122) [(tm 3),(tm 0)])] [2])
 .ret))⟩
theorem good137:Good Tryz.prog (137,af137):=mkK Z0 Tryz.func137 (by kernel_rfl)
def lp138_0:ACode:=
 (.seq (rg [op 9 (ar .lss (tm 8) (tm 7))] [0,1,7,8,9])
 (.seq (.cond (tm 9) .skip
 (.exit 0))
 (.seq (.block 1 (.seq (rg [oq 5 (.mv (tm 8)) [10]] [0,1,5,7,8])
 (.seq (rg [oq 14 (.indexAddrS 2 (tm 0) (tm 5)) [16],op 15 (.load true 2 (tm 14)),op 16 (.call (.val (tm 1)) [(tm 15)])] [0,1,5,7,8,16])
 (.cond (tm 16) (.seq (rg [oq 4 (.mv (tm 5)) [17]] [4])
 .ret)
 .skip))))
 (rg [oq 8 (ar .add (tm 8) (zi 1)) [18]] [0,1,7,8]))))
def af138:AFunc:=⟨19,2,[.tmp 4],
 (.seq (rg [op 4 (.mv (tm 4))] [0,1])
 (.seq (.seq (rg [oq 7 (.len false (tm 0)) [8],op 8 (.mv (zi 0))] [0,1,7,8])
 (.block 0 (.loop lp138_0)))
 (.seq (rg [op 4 (.mv (zi (-1)))] [4])
 .ret)))⟩
theorem good138:Good Tryz.prog (138,af138):=mkK Z0 Tryz.func138 (by kernel_rfl)
def lp139_0:ACode:=
 (.seq (rg [op 9 (ar .lss (tm 8) (tm 7))] [0,1,7,8,9])
 (.seq (.cond (tm 9) .skip
 (.exit 0))
 (.seq (.block 1 (.seq (rg [oq 5 (.mv (tm 8)) [10]] [0,1,5,7,8])
 (.seq (rg [oq 14 (.indexAddrS 2 (tm 0) (tm 5)) [16],op 15 (.load true 2 (tm 14)),op 16 (.call (.val (tm 1)) [(tm 15)])] [0,1,5,7,8,16])
 (.cond (tm 16) (.seq (rg [oq 4 (.mv (tm 5)) [17]] [4])
 .ret)
 .skip))))
 (rg [oq 8 (ar .add (tm 8) (zi 1)) [18]] [0,1,7,8]))))
def af139:AFunc:=⟨19,2,[.tmp 4],
 (.seq (rg [op 4 (.mv (tm 4))] [0,1])
 (.seq (.seq (rg [oq 7 (.len false (tm 0)) [8],op 8 (.mv (zi 0))] [0,1,7,8])
 (.block 0 (.loop lp139_0)))
 (.seq (rg [op 4 (.mv (zi (-1)))] [4])
 .ret)))⟩
theorem good139:Good Tryz.prog (139,af139):=mkK Z0 Tryz.func139 (by kernel_rfl)
def lp140_0:ACode:=
 (.seq (rg [op 33 (ar .lss (tm 32) (tm 31))] [30,31,32,33])
 (.seq (.cond (tm 33) .skip
 (.exit 1))
 (.seq (.block 2 (.seq (rg [op 34 (.indexAddrS 2 (tm 30) (tm 32)),op 35 (.load true 2 (tm 34)),op 5 (.alloc z2a),on (.store 2 (tm 5) (tm 35))] [5,30,31,32])
 (.seq (.block 3 (.seq (rg [oq 37 (.addOff 1 (tm 5)) [40],ld 38 37,op 39 (.len false (tm 38)),op 36 (ar .gtr (tm 39) (zi 4))] [5,30,31,32,36])
 (.cond (tm 36) (.seq (rg [op 2 (.mv (zi 3))] [2])
 .ret)
 (.seq (rg [oq 42 (.addOff 0 (tm 5)) [45],ld 43 42,op 44 (.call (.fn 143) [(tm 43),(zi 2)]),op 41 (.not (tm 44))] [5,30,31,32,41])
 (.cond (tm 41) (.seq (rg [op 2 (.mv (zi 4))] [2])
 .ret)
 .skip)))))
 (.seq (rg [oq 46 (.addOff 1 (tm 5)) [48],ld 47 46,op 6 (.call (.fn 183) [(tm 47)])] [6,30,31,32])
 (.seq (rg [oq 50 (ar .neq (tm 6) (zi 0)) [50]] [6,30,31,32,50])
 (.cond (tm 50) (.seq (rg [oq 2 (.mv (tm 6)) [51]] [2])
 .ret)
 .skip))))))
 (rg [oq 32 (ar .add (tm 32) (zi 1)) [52]] [30,31,32]))))
def af140:AFunc:=⟨53,1,[.tmp 2],
 (.seq (rg [oq 1 (.box (tm 0)) [2]] [1])
 (.seq (.block 0 (.seq (rg [oq 8 (.addOff 1 (tm 1)) [17],ld 9 8,op 10 (.len false (tm 9)),op 12 (ar .gtr (tm 10) (zi 4)),gf 13 12 (.addOff 2 (tm 1)) [],gf 14 12 (l1 (tm 13)) [],gf 15 12 (.len false (tm 14)) [],gf 16 12 (ar .gtr (tm 15) (zi 8)) [],op 7 (.pick (tm 12) (.lit (.bool true)) (tm 16))] [1,7])
 (.cond (tm 7) (.seq (rg [op 2 (.mv (zi 3))] [2])
 .ret)
 (.seq (rg [oq 19 (.addOff 0 (tm 1)) [22],ld 20 19,op 21 (.call (.fn 143) [(tm 20),(zi 2)]),op 18 (.not (tm 21))] [1,18])
 (.cond (tm 18) (.seq (rg [op 2 (.mv (zi 4))] [2])
 .ret)
 .skip)))))
 (.seq (.seq (rg [oq 23 (.addOff 1 (tm 1)) [25],ld 24 23,op 3 (.call (.fn 182) [(tm 24),(zi 1)])] [1,3])
 (.seq (rg [oq 27 (ar .neq (tm 3) (zi 0)) [27]] [1,3,27])
 (.cond (tm 27) (.seq (rg [oq 2 (.mv (tm 3)) [28]] [2])
 .ret)
 .skip)))
 (.seq (.seq (rg [ao 29 2 1,ld 30 29,op 31 (.len false (tm 30)),op 32 (.mv (zi 0))] [30,31,32])
 (.block 1 (.loop lp140_0)))
 (.seq (rg [op 2 (.mv (zi 0))] [2])
 .ret)))))⟩
theorem good140:Good Tryz.prog (140,af140):=mkK Z0 Tryz.func140 (by kernel_rfl)
def lp141_0:ACode:=
 (.seq (rg [op 20 (ar .lss (tm 19) (tm 18))] [17,18,19,20])
 (.seq (.cond (tm 20) .skip
 (.exit 1))
 (.seq (.block 2 (.seq (rg [op 21 (.indexAddrS 14 (tm 17) (tm 19)),op 22 (.load true 14 (tm 21)),op 4 (.alloc z14),on (.store 14 (tm 4) (tm 22))] [4,17,18,19])
 (.seq (.seq (rg [ao 23 0 4,ld 24 23,op 25 (.call (.fn 143) [(tm 24),(zi 1)]),op 26 (.not (tm 25))] [4,17,18,19,26])
 (.cond (tm 26) (.seq (rg [op 2 (.mv (zi 4))] [2])
 .ret)
 .skip))
 (.seq (rg [oq 27 (.addOff 1 (tm 4)) [32],op 28 (.load true 6 (tm 27)),ao 29 7 4,op 30 (.load true 6 (tm 29)),op 31 (.buildSlice 6 2 z6 [(0,(tm 28)),(1,(tm 30))]),op 5 (.call (.fn 183) [(tm 31)])] [5,17,18,19])
 (.seq (rg [oq 34 (ar .neq (tm 5) (zi 0)) [34]] [5,17,18,19,34])
 (.cond (tm 34) (.seq (rg [oq 2 (.mv (tm 5)) [35]] [2])
 .ret)
 .skip))))))
 (rg [oq 19 (ar .add (tm 19) (zi 1)) [36]] [17,18,19]))))
def af141:AFunc:=⟨37,1,[.tmp 2],
 (.seq (rg [oq 1 (.box (tm 0)) [2]] [1])
 (.seq (.block 0 (.seq (rg [oq 7 (.addOff 1 (tm 1)) [10],ld 8 7,op 9 (.len false (tm 8)),op 6 (ar .gtr (tm 9) (zi 8))] [1,6])
 (.cond (tm 6) (.seq (rg [op 2 (.mv (zi 3))] [2])
 .ret)
 (.seq (rg [oq 12 (.addOff 0 (tm 1)) [15],ld 13 12,op 14 (.call (.fn 143) [(tm 13),(zi 2)]),op 11 (.not (tm 14))] [1,11])
 (.cond (tm 11) (.seq (rg [op 2 (.mv (zi 4))] [2])
 .ret)
 .skip)))))
 (.seq (.seq (rg [ao 16 1 1,ld 17 16,op 18 (.len false (tm 17)),op 19 (.mv (zi 0))] [17,18,19])
 (.block 1 (.loop lp141_0)))
 (.seq (rg [op 2 (.mv (zi 0))] [2])
 .ret))))⟩
theorem good141:Good Tryz.prog (141,af141):=mkK Z0 Tryz.func141 (by kernel_rfl)
def lp142_0:ACode:=
 (.seq (.seq (rg [oq 13 (ar .geq (tm 4) (zi 0)) [13]] [1,2,3,4,13])
 (.cond (tm 13) .skip
 (.exit 0)))
 (.seq (.block 1 (.seq (rg [oq 16 (.addOff 2 (tm 1)) [20],ld 17 16,op 19 (.indexAddrS 8 (tm 17) (tm 4)),op 20 (.load true 8 (tm 19)),op 5 (.alloc z8a),on (.store 8 (tm 5) (tm 20))] [1,2,3,4,5])
 (rg [ao 21 0 5,ld 22 21,op 23 (.buildSlice 1 1 [(.str [])] [(0,(tm 22))]),ao 24 1 5,op 25 (.load true 7 (tm 24)),op 26 (.load true 7 (tm 3)),op 27 (.buildSlice 7 2 z7a [(0,(tm 25)),(1,(tm 26))]),op 28 (.build [(.int .i64 0),(.int .i64 0),(.str []),(.str []),(.slice []),(.slice []),(.slice [])] [(0,1,(zi 6)),(4,1,(tm 23)),(5,1,(tm 27))]),on (.store 7 (tm 3) (tm 28))] [1,2,3,4])))
 (rg [oq 14 (.mv (tm 4)) [15],op 4 (ar .sub (tm 14) (zi 1))] [1,2,3,4])))
def af142:AFunc:=⟨30,1,[.cell 2 true 7],
 (.seq (rg [op 1 (.box (tm 0)),op 2 (.alloc z7a)] [1,2])
 (.seq (rg [ao 6 3 1,op 7 (.load true 7 (tm 6)),op 3 (.alloc z7a),on (.store 7 (tm 3) (tm 7))] [1,2,3])
 (.seq (.seq (rg [oq 8 (.addOff 2 (tm 1)) [11],ld 9 8,op 10 (.len false (tm 9)),op 4 (ar .sub (tm 10) (zi 1))] [1,2,3,4])
 (.block 0 (.loop lp142_0)))
 (.seq (rg [op 29 (.load true 7 (tm 3)),on (.store 7 (tm 2) (tm 29))] [2])
 .ret))))⟩
theorem good142:Good Tryz.prog (142,af142):=mkK (fun t=>t==28) Tryz.func142 (by kernel_rfl)
def af143:AFunc:=⟨36,2,[.tmp 4],
 (.seq (rg [op 4 (.mv (tm 4))] [0,1])
 (.seq (.seq (rg [op 5 (.mv (tm 1))] [0,5])
 (.block 0 (.seq (rg [oq 6 (ar .eql (tm 5) (zi 1)) [7]] [0,5,6])
 (.cond (tm 6) (.seq (rg [oq 4 (.call (.fn 184) [(tm 0)]) [9]] [4])
 .ret)
 (.seq (rg [oq 10 (ar .eql (tm 5) (zi 2)) [11]] [0,5,10])
 (.cond (tm 10) (.seq (rg [oq 4 (.call (.fn 185) [(tm 0)]) [13]] [4])
 .ret)
 (.seq (rg [oq 14 (ar .eql (tm 5) (zi 3)) [15]] [0,14])
 (.cond (tm 14) (.seq (rg [oq 18 (ar .eql (tm 0) (.lit (.str [43]))) [33],gf 19 18 (.mv (tm 0)) [],gf 20 18 (ar .eql (tm 19) (.lit (.str [45]))) [],op 22 (.pick (tm 18) (.lit (.bool true)) (tm 20)),gf 23 22 (.mv (tm 0)) [],gf 24 22 (ar .eql (tm 23) (.lit (.str [42]))) [],op 26 (.pick (tm 22) (.lit (.bool true)) (tm 24)),gf 27 26 (.mv (tm 0)) [],gf 28 26 (ar .eql (tm 27) (.lit (.str [60]))) [],op 30 (.pick (tm 26) (.lit (.bool true)) (tm 28)),gf 31 30 (.mv (tm 0)) [],gf 32 30 (ar .eql (tm 31) (.lit (.str [61,61]))) [],op 4 (.pick (tm 30) (.lit (.bool true)) (tm 32))] [4])
 .ret)
 .skip))))))))
 (.seq (rg [oq 4 (ar .eql (tm 0) (.lit (.str []))) [35]] [4])
 .ret)))⟩
theorem good143:Good Tryz.prog (143,af143):=mkK Z0 Tryz.func143 (by kernel_rfl)
noncomputable def af144:AFunc:=cZ Tryz.prog Z0 Tryz.f144
theorem good144:Good Tryz.prog (144,af144):=mkC Z0 Tryz.func144 (by kernel_rfl)
noncomputable def af145:AFunc:=cZ Tryz.prog Z0 Tryz.f145
theorem good145:Good Tryz.prog (145,af145):=mkC Z0 Tryz.func145 (by kernel_rfl)
noncomputable def af147:AFunc:=cZ Tryz.prog Z0 Tryz.f147
theorem good147:Good Tryz.prog (147,af147):=mkC Z0 Tryz.func147 (by kernel_rfl)
noncomputable def af150:AFunc:=cZ Tryz.prog Z0 Tryz.f150
theorem good150:Good Tryz.prog (150,af150):=mkC Z0 Tryz.func150 (by kernel_rfl)
def lp152_0:ACode:=
 (.seq (.seq (rg [oq 8 (.len false (tm 0)) [9],op 9 (ar .lss (tm 5) (tm 8))] [0,1,5,9])
 (.cond (tm 9) .skip
 (.exit 0)))
 (.seq (.block 1 (.seq (rg [oq 14 (.indexAddrS 1 (tm 0) (tm 5)) [17],ld 15 14,op 17 (ar .eql (tm 15) (tm 1))] [0,1,5,17])
 (.cond (tm 17) (.seq (rg [oq 4 (.mv (tm 5)) [18]] [4])
 .ret)
 .skip)))
 (rg [oq 10 (.mv (tm 5)) [11],op 5 (ar .add (tm 10) (zi 1))] [0,1,5])))
def af152:AFunc:=⟨19,2,[.tmp 4],
 (.seq (rg [op 4 (.mv (tm 4))] [0,1])
 (.seq (.seq (rg [op 5 (.mv (zi 0))] [0,1,5])
 (.block 0 (.loop lp152_0)))
 (.seq (rg [op 4 (.mv (zi (-1)))] [4])
 .ret)))⟩
theorem good152:Good Tryz.prog (152,af152):=mkK Z0 Tryz.func152 (by kernel_rfl)
def lp153_0:ACode:=
 (.seq (.seq (rg [oq 9 (ar .geq (tm 4) (zi 0)) [9]] [0,3,4,9])
 (.cond (tm 9) .skip
 (.exit 0)))
 (.seq (.block 1 (.seq (rg [oq 12 (.mv (tm 3)) [13],op 3 (ar .mul (zi 2) (tm 12))] [0,3,4])
 (.seq (rg [oq 16 (.indexAddrS 1 (tm 0) (tm 4)) [17],ld 17 16] [0,3,4,17])
 (.cond (tm 17) (rg [oq 18 (.mv (tm 3)) [19],op 3 (ar .add (tm 18) (zi 1))] [0,3,4])
 .skip))))
 (rg [oq 10 (.mv (tm 4)) [11],op 4 (ar .sub (tm 10) (zi 1))] [0,3,4])))
def af153:AFunc:=⟨21,1,[.tmp 2],
 (.seq (rg [op 2 (.mv (tm 2))] [0])
 (.seq (rg [op 3 (.mv (zi 0))] [0,3])
 (.seq (.seq (rg [oq 6 (.len false (tm 0)) [7],op 4 (ar .sub (tm 6) (zi 1))] [0,3,4])
 (.block 0 (.loop lp153_0)))
 (.seq (rg [oq 2 (.mv (tm 3)) [20]] [2])
 .ret))))⟩
theorem good153:Good Tryz.prog (153,af153):=mkK Z0 Tryz.func153 (by kernel_rfl)
def lp154_0:ACode:=
 (.seq (.seq (rg [oq 43 (.addOff 2 (tm 7)) [50],ld 44 43,op 46 (.indexAddrS 2 (tm 44) (tm 11)),ao 47 1 46,ld 48 47,op 49 (.len false (tm 48)),op 50 (ar .lss (tm 13) (tm 49))] [1,2,5,6,7,8,9,10,11,12,13,50])
 (.cond (tm 50) .skip
 (.exit 6)))
 (.seq (.block 7 (dr [oq 53 (.mv (tm 12)) [12],oq 54 (.mv (tm 53)) [53],gt 55 54 (.load true 10 (tm 2)) [2,54],gt 56 54 (.addOff 2 (tm 7)) [7,54],gt 57 54 (l1 (tm 56)) [56,54],gt 58 54 (.mv (tm 11)) [11,54],gt 59 54 (.indexAddrS 2 (tm 57) (tm 58)) [57,58,54],gt 60 54 (.addOff 1 (tm 59)) [59,54],gt 61 54 (l1 (tm 60)) [60,54],gt 62 54 (.mv (tm 13)) [13,54],gt 63 54 (.indexAddrS 6 (tm 61) (tm 62)) [61,62,54],gt 64 54 (.load true 6 (tm 63)) [63,54],gt 65 54 (.addOff 1 (tm 7)) [7,54],gt 66 54 (l1 (tm 65)) [65,54],gt 67 54 (.mv (tm 9)) [9,54],gt 68 54 (.mv (tm 1)) [1,54],gt 69 54 (.call (.fn 102) [(tm 55),(tm 64),(tm 66),(tm 67),(tm 68)]) [55,64,66,67,68,54],oq 70 (.pick (tm 54) (tm 69) (.lit (.bool false))) [54,69],oq 12 (.mv (tm 70)) [70]] [0,1,3,3,11,3,59,123,251,3,1019,2043,3,4099,3,3,65535,131071,262143] [1,2,5,6,7,8,9,10,11,12,13]))
 (rg [oq 51 (.mv (tm 13)) [52],op 13 (ar .add (tm 51) (zi 1))] [1,2,5,6,7,8,9,10,11,12,13])))
def lp154_1:ACode:=
 (.seq (.seq (rg [oq 36 (.addOff 2 (tm 7)) [39],ld 37 36,op 38 (.len false (tm 37)),op 39 (ar .lss (tm 11) (tm 38))] [1,2,5,6,7,8,9,10,11,39])
 (.cond (tm 39) .skip
 (.exit 4)))
 (.seq (.block 5 (.seq (rg [op 12 (.mv (.lit (.bool true)))] [1,2,5,6,7,8,9,10,11,12])
 (.seq (.seq (rg [op 13 (.mv (zi 0))] [1,2,5,6,7,8,9,10,11,12,13])
 (.block 6 (.loop lp154_0)))
 (rg [oq 72 (.mv (tm 10)) [74],gf 73 72 (.mv (tm 12)) [],op 10 (.pick (tm 72) (.lit (.bool true)) (tm 73))] [1,2,5,6,7,8,9,10,11]))))
 (rg [oq 40 (.mv (tm 11)) [41],op 11 (ar .add (tm 40) (zi 1))] [1,2,5,6,7,8,9,10,11])))
def lp154_2:ACode:=
 (.seq (.seq (rg [oq 29 (.indexAddrS 1 (tm 1) (tm 6)) [32],ld 30 29,op 31 (.len false (tm 30)),op 32 (ar .lss (tm 9) (tm 31))] [1,2,5,6,7,8,9,32])
 (.cond (tm 32) .skip
 (.exit 2)))
 (.seq (.block 3 (.seq (rg [op 10 (.mv (.lit (.bool false)))] [1,2,5,6,7,8,9,10])
 (.seq (.seq (rg [op 11 (.mv (zi 0))] [1,2,5,6,7,8,9,10,11])
 (.block 4 (.loop lp154_1)))
 (rg [oq 75 (.mv (tm 8)) [78],op 77 (.buildSlice 1 1 [(.bool false)] [(0,(tm 10))]),op 8 (.append 1 1 (tm 75) (tm 77))] [1,2,5,6,7,8,9]))))
 (rg [oq 33 (.mv (tm 9)) [34],op 9 (ar .add (tm 33) (zi 1))] [1,2,5,6,7,8,9])))
def lp154_3:ACode:=
 (.seq (.seq (rg [oq 15 (.addOff 0 (tm 2)) [18],ld 16 15,op 17 (.len false (tm 16)),op 18 (ar .lss (tm 6) (tm 17))] [1,2,5,6,18])
 (.cond (tm 18) .skip
 (.exit 0)))
 (.seq (.block 1 (.seq (rg [oq 21 (.addOff 0 (tm 2)) [25],ld 22 21,op 24 (.indexAddrS 3 (tm 22) (tm 6)),op 25 (.load true 3 (tm 24)),op 7 (.alloc z3),on (.store 3 (tm 7) (tm 25))] [1,2,5,6,7])
 (.seq (rg [op 8 (.newrow 1)] [1,2,5,6,7,8])
 (.seq (.seq (rg [op 9 (.mv (zi 0))] [1,2,5,6,7,8,9])
 (.block 2 (.loop lp154_2)))
 (rg [oq 79 (.mv (tm 5)) [82],op 81 (.buildSlice 1 1 [.empty] [(0,(tm 8))]),op 5 (.append 1 24 (tm 79) (tm 81))] [1,2,5,6])))))
 (rg [oq 19 (.mv (tm 6)) [20],op 6 (ar .add (tm 19) (zi 1))] [1,2,5,6])))
def af154:AFunc:=⟨84,2,[.tmp 4],
 (.seq (rg [oq 2 (.box (tm 0)) [4]] [1,2])
 (.seq (rg [op 5 (.newrow 1)] [1,2,5])
 (.seq (.seq (rg [op 6 (.mv (zi 0))] [1,2,5,6])
 (.block 0 (.loop lp154_3)))
 (.seq (rg [oq 4 (.mv (tm 5)) [83]] [4])
 .ret))))⟩
theorem good154:Good Tryz.prog (154,af154):=mkK (fun t=>t==5||t==8) Tryz.func154 (by kernel_rfl)
def lp155_0:ACode:=
 (.seq (.seq (rg [ao 3 0 1,ao 4 0 3,ld 5 4,op 6 (ar .eql (tm 5) (zi 1))] [1,2,6])
 (.cond (tm 6) .skip
 (.exit 0)))
 (.block 1 (dr [aq 7 7 1,lq 8 7,aq 9 6 1,lq 10 9,aq 11 0 1,aq 12 2 11,lq 13 12,oq 14 (.call (.fn 152) [(tm 10),(tm 13)]) [10,13],oq 15 (.indexAddrS 8 (tm 8) (tm 14)) [8,14],oq 16 (.load true 8 (tm 15)) [15],om (.store 8 (tm 1) (tm 16)) [1,16]] [0,1,0,4,0,16,48,124,255,511,1023] [1,2])))
def af155:AFunc:=⟨18,1,[.cell 2 true 8],
 (.seq (rg [op 1 (.box (tm 0)),op 2 (.alloc z8)] [1,2])
 (.seq (.block 0 (.loop lp155_0))
 (.seq (rg [op 17 (.load true 8 (tm 1)),on (.store 8 (tm 2) (tm 17))] [2])
 .ret)))⟩
theorem good155:Good Tryz.prog (155,af155):=mkK Z0 Tryz.func155 (by kernel_rfl)
def af156:AFunc:=⟨34,3,[.tmp 6],
 (.seq (rg [oq 3 (.box (tm 0)) [6],op 4 (.box (tm 1))] [2,3,4])
 (.seq (dr [aq 9 0 3,lq 10 9,oq 11 (.load true 10 (tm 3)) [3],aq 12 0 4,aq 13 2 12,lq 14 13,oq 15 (.call (.fn 123) [(tm 11),(tm 14)]) [11,14],oq 16 (.indexAddrS 3 (tm 10) (tm 15)) [10,15],oq 17 (.load true 3 (tm 16)) [16],op 7 (.alloc z3),om (.store 3 (tm 7) (tm 17)) [7,17]] [0,1,0,0,8,24,60,127,255,0,1023] [2,4,7])
 (.seq (dr [aq 18 1 7,lq 19 18,oq 20 (.load true 8 (tm 4)) [4],aq 21 0 4,aq 22 3 21,lq 23 22,oq 24 (.call (.fn 195) [(tm 20),(tm 23)]) [20,23],oq 25 (.build [(.int .i64 0),(.int .i64 0),(.str []),(.slice []),(.slice []),(.int .i64 0),(.slice []),(.slice [])] [(6,1,(tm 19)),(7,1,(tm 24))]) [19,24],op 8 (.alloc z8),om (.store 8 (tm 8) (tm 25)) [8,25]] [0,1,0,0,8,24,60,127,0,511] [2,7,8])
 (.seq (dr [oq 26 (.load true 8 (tm 8)) [8],aq 27 2 7,lq 28 27,oq 29 (.mv (tm 2)) [2],oq 30 (.indexAddrS 2 (tm 28) (tm 29)) [28,29],aq 31 1 30,lq 32 31,oq 33 (.call (.fn 195) [(tm 26),(tm 32)]) [26,32],oq 6 (.mv (tm 33)) [33]] [0,0,2,0,14,30,62,127,255] [6])
 .ret))))⟩
theorem good156:Good Tryz.prog (156,af156):=mkK (fun t=>t==25) Tryz.func156 (by kernel_rfl)
def af157:AFunc:=⟨15,3,[.tmp 6],
 (.seq (rg [op 6 (.mv (tm 6))] [0,1,2])
 (.seq (rg [oq 10 (ar .leq (tm 1) (tm 0)) [14],gt 11 10 (.mv (tm 0)) [],gt 12 10 (.mv (tm 2)) [],gt 13 10 (ar .leq (tm 11) (tm 12)) [],op 6 (.pick (tm 10) (tm 13) (.lit (.bool false)))] [6])
 .ret))⟩
theorem good157:Good Tryz.prog (157,af157):=mkK Z0 Tryz.func157 (by kernel_rfl)
def af161:AFunc:=⟨9,2,[.tmp 4],
 (.seq (rg [op 4 (.mv (tm 4))] [0,1])
 (.seq (rg [oq 7 (.call (.fn 197) [(tm 0),(tm 1)]) [8],op 4 (ar .geq (tm 7) (zi 0))] [4])
 .ret))⟩
theorem good161:Good Tryz.prog (161,af161):=mkK Z0 Tryz.func161 (by kernel_rfl)
def af162:AFunc:=⟨11,3,[.tmp 4],
 (.seq (rg [oq 3 (.box (tm 0)) [4]] [1,2,3])
 (.seq (rg [oq 5 (l1 (tm 1)) [10],op 6 (.load true 6 (tm 3)),ld 7 2,op 8 (ar .add (tm 7) (zi 1)),op 9 (.call (.fn 113) [(tm 5),(tm 6),(tm 8)]),op 4 (.not (tm 9))] [4])
 .ret))⟩
theorem good162:Good Tryz.prog (162,af162):=mkK Z0 Tryz.func162 (by kernel_rfl)
def af163:AFunc:=⟨78,1,[.tmp 2],
 (.seq (rg [oq 1 (.box (tm 0)) [2]] [1])
 (.seq (.seq (rg [oq 8 (.addOff 0 (tm 1)) [27],ld 9 8,op 10 (.call (.fn 198) [(tm 9),(zi 0),(zi 6)]),op 12 (.not (tm 10)),gf 13 12 (.addOff 1 (tm 1)) [],gf 14 12 (l1 (tm 13)) [],gf 15 12 (.call (.fn 198) [(tm 14),(zi 0),(zi 999999999)]) [],gf 16 12 (.not (tm 15)) [],op 18 (.pick (tm 12) (.lit (.bool true)) (tm 16)),gf 19 18 (.addOff 0 (tm 1)) [],gf 20 18 (l1 (tm 19)) [],gf 21 18 (ar .neq (tm 20) (zi 0)) [],gf 22 18 (.mv (tm 21)) [],gt 23 22 (.addOff 1 (tm 1)) [],gt 24 22 (l1 (tm 23)) [],gt 25 22 (ar .gtr (tm 24) (zi 0)) [],gf 26 18 (.pick (tm 22) (tm 25) (.lit (.bool false))) [],op 27 (.pick (tm 18) (.lit (.bool true)) (tm 26))] [1,27])
 (.cond (tm 27) (.seq (rg [op 2 (.mv (zi 1))] [2])
 .ret)
 .skip))
 (.seq (rg [op 3 (.mv (zi 0)),op 4 (.mv (zi 0)),op 5 (.mv (zi 0))] [1,3,4,5])
 (.seq (.seq (rg [ao 28 0 1,ld 29 28] [1,3,4,5,29])
 (.block 0 (.seq (rg [oq 30 (ar .eql (tm 29) (zi 1)) [31]] [1,3,4,5,29,30])
 (.cond (tm 30) (rg [op 3 (.mv (zi 1))] [1,3,4,5])
 (.seq (rg [oq 32 (ar .eql (tm 29) (zi 6)) [33]] [1,3,4,5,29,32])
 (.cond (tm 32) (rg [op 3 (.mv (zi 2)),op 5 (.mv (zi 4))] [1,3,4,5])
 (.seq (rg [oq 34 (ar .eql (tm 29) (zi 5)) [35]] [1,3,4,5,34])
 (.cond (tm 34) (rg [op 4 (.mv (zi 2)),op 5 (.mv (zi 2))] [1,3,4,5])
 .skip))))))))
 (.seq (rg [oq 37 (.addOff 2 (tm 1)) [41],ld 38 37,op 36 (.call (.fn 199) [(tm 38)]),op 40 (.extract (tm 36) 0),op 41 (.extract (tm 36) 1),op 7 (.mv (tm 41))] [1,3,4,5,7])
 (.seq (.block 1 (.seq (rg [oq 43 (.addOff 2 (tm 1)) [50],ld 44 43,op 46 (.call (.fn 143) [(tm 44),(tm 3)]),op 48 (.not (tm 46)),gf 49 48 (.mv (tm 7)) [],op 42 (.pick (tm 48) (.lit (.bool true)) (tm 49))] [1,4,5,42])
 (.cond (tm 42) (.seq (rg [op 2 (.mv (zi 4))] [2])
 .ret)
 (.seq (rg [oq 52 (.addOff 3 (tm 1)) [58],ld 53 52,op 54 (.len false (tm 53)),op 57 (.call (.fn 198) [(tm 54),(tm 4),(tm 5)]),op 51 (.not (tm 57))] [1,51])
 (.cond (tm 51) (.seq (rg [op 2 (.mv (zi 7))] [2])
 .ret)
 (.seq (rg [oq 60 (.addOff 0 (tm 1)) [62],ld 61 60,op 59 (ar .eql (tm 61) (zi 5))] [1,59])
 (.cond (tm 59) (.seq (rg [oq 63 (.addOff 4 (tm 1)) [65],op 64 (.load true 2 (tm 63)),op 2 (.call (.fn 200) [(tm 64)])] [2])
 .ret)
 (.seq (rg [oq 67 (.addOff 4 (tm 1)) [77],ao 68 0 67,ld 69 68,op 70 (.len false (tm 69)),op 72 (ar .gtr (tm 70) (zi 0)),gf 73 72 (.addOff 4 (tm 1)) [],gf 74 72 (.addOff 1 (tm 73)) [],gf 75 72 (l1 (tm 74)) [],gf 76 72 (ar .neq (tm 75) (zi 0)) [],op 66 (.pick (tm 72) (.lit (.bool true)) (tm 76))] [66])
 (.cond (tm 66) (.seq (rg [op 2 (.mv (zi 1))] [2])
 .ret)
 .skip)))))))))
 (.seq (rg [op 2 (.mv (zi 0))] [2])
 .ret)))))))⟩
theorem good163:Good Tryz.prog (163,af163):=mkK Z0 Tryz.func163 (by kernel_rfl)
def af164:AFunc:=⟨8,2,[.tmp 4],
 (.seq (rg [op 4 (.mv (tm 4))] [0,1])
 (.seq (rg [oq 4 (.call (.fn 201) [(tm 0),(tm 1)]) [7]] [4])
 .ret))⟩
theorem good164:Good Tryz.prog (164,af164):=mkK Z0 Tryz.func164 (by kernel_rfl)
def af165:AFunc:=⟨8,2,[.tmp 3],
 (.seq (rg [oq 2 (.box (tm 0)) [3]] [1,2])
 (.seq (rg [oq 4 (.addOff 0 (tm 2)) [7],ld 5 4,ld 6 1,op 3 (ar .eql (tm 5) (tm 6))] [3])
 .ret))⟩
theorem good165:Good Tryz.prog (165,af165):=mkK Z0 Tryz.func165 (by kernel_rfl)
noncomputable def af166:AFunc:=cZ Tryz.prog Z0 Tryz.f166
theorem good166:Good Tryz.prog (166,af166):=mkC Z0 Tryz.func166 (by kernel_rfl)
def af167:AFunc:=⟨20,2,[.tmp 4],
 (.seq (rg [op 4 (.mv (tm 4))] [0,1])
 (.seq (.seq (rg [oq 6 (ar .eql (tm 1) (zi 1)) [6]] [0,1,6])
 (.cond (tm 6) (.seq (rg [oq 4 (.call (.fn 135) [(tm 0)]) [8]] [4])
 .ret)
 .skip))
 (.seq (.seq (rg [oq 10 (ar .eql (tm 1) (zi 2)) [10]] [0,1,10])
 (.cond (tm 10) (.seq (rg [oq 4 (.call (.fn 176) [(tm 0)]) [12]] [4])
 .ret)
 .skip))
 (.seq (.seq (rg [oq 14 (ar .eql (tm 1) (zi 3)) [14]] [0,14])
 (.cond (tm 14) (.seq (rg [oq 15 (.buildSlice 1 5 [(.str [])] [(0,(.lit (.str [43]))),(1,(.lit (.str [45]))),(2,(.lit (.str [42]))),(3,(.lit (.str [60]))),(4,(.lit (.str [61,61])))]) [17],op 4 (.call (.fn 122) [(tm 15),(tm 0)])] [4])
 .ret)
 .skip))
 (.seq (rg [oq 4 (ar .eql (tm 0) (.lit (.str []))) [19]] [4])
 .ret)))))⟩
theorem good167:Good Tryz.prog (167,af167):=mkK Z0 Tryz.func167 (by kernel_rfl)
def af168:AFunc:=⟨6,1,[.tmp 2],
 (.seq (rg [op 2 (.mv (tm 2))] [0])
 (.seq (rg [oq 3 (.buildSlice 1 3 [(.str [])] [(0,(.lit (.str [73,110,116]))),(1,(.lit (.str [66,111,111,108]))),(2,(.lit (.str [85,110,105,116])))]) [5],op 2 (.call (.fn 122) [(tm 3),(tm 0)])] [2])
 .ret))⟩
theorem good168:Good Tryz.prog (168,af168):=mkK Z0 Tryz.func168 (by kernel_rfl)
def lp169_0:ACode:=
 (.seq (.seq (rg [oq 5 (.addOff 0 (tm 1)) [8],ld 6 5,op 7 (.len false (tm 6)),op 8 (ar .lss (tm 3) (tm 7))] [1,3,8])
 (.cond (tm 8) .skip
 (.exit 0)))
 (.seq (.block 1 (.seq (.seq (rg [oq 11 (.addOff 0 (tm 1)) [18],ld 12 11,op 14 (.indexAddrS 2 (tm 12) (tm 3)),ao 15 0 14,ld 16 15,op 17 (.call (.fn 176) [(tm 16)]),op 18 (.not (tm 17))] [1,3,18])
 (.cond (tm 18) (.seq (rg [op 2 (.mv (zi 4))] [2])
 .ret)
 .skip))
 (.seq (rg [oq 19 (.addOff 0 (tm 1)) [26],ld 20 19,op 22 (.indexAddrS 2 (tm 20) (tm 3)),ao 23 1 22,ld 24 23,op 25 (.call (.fn 157) [(tm 24),(zi 0),(zi 999999999)]),op 26 (.not (tm 25))] [1,3,26])
 (.cond (tm 26) (.seq (rg [op 2 (.mv (zi 1))] [2])
 .ret)
 .skip))))
 (rg [oq 9 (.mv (tm 3)) [10],op 3 (ar .add (tm 9) (zi 1))] [1,3])))
def af169:AFunc:=⟨31,1,[.tmp 2],
 (.seq (rg [oq 1 (.box (tm 0)) [2]] [1])
 (.seq (.seq (rg [op 3 (.mv (zi 0))] [1,3])
 (.block 0 (.loop lp169_0)))
 (.seq (.seq (rg [ao 27 1 1,ld 28 27,op 29 (.call (.fn 157) [(tm 28),(zi (-1)),(zi 999999999)]),op 30 (.not (tm 29))] [30])
 (.cond (tm 30) (.seq (rg [op 2 (.mv (zi 1))] [2])
 .ret)
 .skip))
 (.seq (rg [op 2 (.mv (zi 0))] [2])
 .ret))))⟩
theorem good169:Good Tryz.prog (169,af169):=mkK Z0 Tryz.func169 (by kernel_rfl)
noncomputable def af170:AFunc:=cZ Tryz.prog Z0 Tryz.f170
theorem good170:Good Tryz.prog (170,af170):=mkC Z0 Tryz.func170 (by kernel_rfl)
def lp172_0:ACode:=
 (.seq (rg [op 13 (ar .lss (tm 12) (tm 11))] [1,2,10,11,12,13])
 (.seq (.cond (tm 13) .skip
 (.exit 0))
 (.seq (.block 1 (.seq (rg [op 14 (.indexAddrS 7 (tm 10) (tm 12)),op 15 (.load true 7 (tm 14)),op 6 (.alloc z7a),on (.store 7 (tm 6) (tm 15))] [1,2,6,10,11,12])
 (.seq (rg [oq 17 (.load true 7 (tm 6)) [19],op 18 (.call (.val (tm 1)) [(tm 17)]),op 19 (.not (tm 18))] [1,2,10,11,12,19])
 (.cond (tm 19) (.seq (rg [op 4 (.mv (.lit (.bool false)))] [4])
 .ret)
 .skip))))
 (rg [oq 12 (ar .add (tm 12) (zi 1)) [20]] [1,2,10,11,12]))))
def lp172_1:ACode:=
 (.seq (rg [op 25 (ar .lss (tm 24) (tm 23))] [1,22,23,24,25])
 (.seq (.cond (tm 25) .skip
 (.exit 2))
 (.seq (.block 3 (.seq (rg [op 26 (.indexAddrS 9 (tm 22) (tm 24)),op 27 (.load true 9 (tm 26)),op 8 (.alloc z9a),on (.store 9 (tm 8) (tm 27))] [1,8,22,23,24])
 (.seq (rg [oq 29 (.addOff 2 (tm 8)) [32],op 30 (.load true 7 (tm 29)),op 31 (.call (.val (tm 1)) [(tm 30)]),op 32 (.not (tm 31))] [1,22,23,24,32])
 (.cond (tm 32) (.seq (rg [op 4 (.mv (.lit (.bool false)))] [4])
 .ret)
 .skip))))
 (rg [oq 24 (ar .add (tm 24) (zi 1)) [33]] [1,22,23,24]))))
def af172:AFunc:=⟨34,2,[.tmp 4],
 (.seq (rg [oq 2 (.box (tm 0)) [4]] [1,2])
 (.seq (.seq (rg [ao 9 5 2,ld 10 9,op 11 (.len false (tm 10)),op 12 (.mv (zi 0))] [1,2,10,11,12])
 (.block 0 (.loop lp172_0)))
 (.seq (.seq (rg [ao 21 6 2,ld 22 21,op 23 (.len false (tm 22)),op 24 (.mv (zi 0))] [1,22,23,24])
 (.block 2 (.loop lp172_1)))
 (.seq (rg [op 4 (.mv (.lit (.bool true)))] [4])
 .ret))))⟩
theorem good172:Good Tryz.prog (172,af172):=mkK Z0 Tryz.func172 (by kernel_rfl)
def af173:AFunc:=⟨10,3,[.tmp 4],
 (.seq (rg [oq 3 (.box (tm 0)) [4]] [1,2,3])
 (.seq (rg [oq 5 (l1 (tm 1)) [9],op 6 (.load true 7 (tm 3)),ld 7 2,op 8 (ar .add (tm 7) (zi 1)),op 4 (.call (.fn 130) [(tm 5),(tm 6),(tm 8)])] [4])
 .ret))⟩
theorem good173:Good Tryz.prog (173,af173):=mkK Z0 Tryz.func173 (by kernel_rfl)
def lp174_0:ACode:=
 (.seq (rg [op 110 (ar .lss (tm 109) (tm 108))] [1,3,108,109,110])
 (.seq (.cond (tm 110) .skip
 (.exit 1))
 (.seq (.block 2 (.seq (rg [oq 7 (.mv (tm 109)) [111]] [1,3,7,108,109])
 (.seq (rg [oq 112 (.load true 7 (tm 1)) [114],op 8 (.call (.fn 203) [(tm 112),(tm 7)])] [1,3,8,108,109])
 (.seq (rg [oq 116 (ar .neq (tm 8) (zi 0)) [116]] [1,3,8,108,109,116])
 (.cond (tm 116) (.seq (rg [oq 2 (.mv (tm 8)) [117]] [2])
 .ret)
 .skip)))))
 (rg [oq 109 (ar .add (tm 109) (zi 1)) [118]] [1,3,108,109]))))
def af174:AFunc:=⟨132,1,[.tmp 2],
 (.seq (rg [oq 1 (.box (tm 0)) [2]] [1])
 (.seq (.seq (rg [ao 9 0 1,ld 10 9,op 11 (.call (.fn 198) [(tm 10),(zi 0),(zi 19)]),op 12 (.not (tm 11))] [1,12])
 (.cond (tm 12) (.seq (rg [op 2 (.mv (zi 1))] [2])
 .ret)
 .skip))
 (.seq (rg [ao 13 0 1,ld 14 13,op 15 (.indexAddrA 20 9 (.glob 0) (tm 14)),op 16 (.load true 9 (tm 15)),op 3 (.alloc z9),on (.store 9 (tm 3) (tm 16))] [1,3])
 (.seq (.block 0 (.seq (rg [oq 18 (.addOff 1 (tm 1)) [25],ld 19 18,ao 20 7 3,ld 21 20,ao 22 8 3,ld 23 22,op 24 (.call (.fn 198) [(tm 19),(tm 21),(tm 23)]),op 17 (.not (tm 24))] [1,3,17])
 (.cond (tm 17) (.seq (rg [op 2 (.mv (zi 1))] [2])
 .ret)
 (.seq (rg [oq 27 (.addOff 2 (tm 1)) [40],ld 28 27,ao 29 0 3,ld 30 29,op 31 (.call (.fn 143) [(tm 28),(tm 30)]),op 33 (.not (tm 31)),gf 34 33 (.addOff 3 (tm 1)) [],gf 35 33 (l1 (tm 34)) [],gf 36 33 (.addOff 1 (tm 3)) [],gf 37 33 (l1 (tm 36)) [],gf 38 33 (.call (.fn 143) [(tm 35),(tm 37)]) [],gf 39 33 (.not (tm 38)) [],op 26 (.pick (tm 33) (.lit (.bool true)) (tm 39))] [1,3,26])
 (.cond (tm 26) (.seq (rg [op 2 (.mv (zi 4))] [2])
 .ret)
 (.seq (rg [oq 42 (.addOff 4 (tm 1)) [67],ld 43 42,op 44 (.len false (tm 43)),ao 45 2 3,ld 46 45,ao 47 2 3,ld 48 47,ao 49 3 3,ld 50 49,op 51 (ar .add (tm 48) (tm 50)),op 52 (.call (.fn 198) [(tm 44),(tm 46),(tm 51)]),op 54 (.not (tm 52)),gf 55 54 (.addOff 5 (tm 1)) [],gf 56 54 (l1 (tm 55)) [],gf 57 54 (.len false (tm 56)) [],gf 58 54 (.addOff 4 (tm 3)) [],gf 59 54 (l1 (tm 58)) [],gf 60 54 (.addOff 4 (tm 3)) [],gf 61 54 (l1 (tm 60)) [],gf 62 54 (.addOff 5 (tm 3)) [],gf 63 54 (l1 (tm 62)) [],gf 64 54 (ar .add (tm 61) (tm 63)) [],gf 65 54 (.call (.fn 198) [(tm 57),(tm 59),(tm 64)]) [],gf 66 54 (.not (tm 65)) [],op 41 (.pick (tm 54) (.lit (.bool true)) (tm 66))] [1,3,41])
 (.cond (tm 41) (.seq (rg [op 2 (.mv (zi 7))] [2])
 .ret)
 (.seq (rg [oq 69 (.addOff 6 (tm 3)) [83],ld 70 69,op 72 (.not (tm 70)),gt 73 72 (.addOff 6 (tm 1)) [],gt 74 72 (l1 (tm 73)) [],gt 75 72 (.len false (tm 74)) [],gt 76 72 (ar .gtr (tm 75) (zi 0)) [],op 78 (.pick (tm 72) (tm 76) (.lit (.bool false))),gf 79 78 (.addOff 6 (tm 1)) [],gf 80 78 (l1 (tm 79)) [],gf 81 78 (.len false (tm 80)) [],gf 82 78 (ar .gtr (tm 81) (zi 9)) [],op 68 (.pick (tm 78) (.lit (.bool true)) (tm 82))] [1,3,68])
 (.cond (tm 68) (.seq (rg [op 2 (.mv (zi 7))] [2])
 .ret)
 .skip)))))))))
 (.seq (rg [oq 84 (.addOff 4 (tm 1)) [86],ld 85 84,op 4 (.len false (tm 85))] [1,3,4])
 (.seq (.seq (rg [ao 87 0 1,ld 88 87,op 89 (ar .eql (tm 88) (zi 17))] [1,3,4,89])
 (.cond (tm 89) (rg [op 4 (.mv (zi 1))] [1,3,4])
 .skip))
 (.seq (.seq (rg [oq 90 (.addOff 4 (tm 1)) [94],ld 91 90,op 93 (.sliceRow 1 (tm 91) none (some (tm 4)) none),op 5 (.call (.fn 182) [(tm 93),(zi 1)])] [1,3,4,5])
 (.seq (rg [oq 96 (ar .neq (tm 5) (zi 0)) [96]] [1,3,4,5,96])
 (.cond (tm 96) (.seq (rg [oq 2 (.mv (tm 5)) [97]] [2])
 .ret)
 .skip)))
 (.seq (.seq (rg [oq 98 (.addOff 4 (tm 1)) [102],ld 99 98,op 101 (.sliceRow 1 (tm 99) (some (tm 4)) none none),op 6 (.call (.fn 182) [(tm 101),(zi 2)])] [1,3,6])
 (.seq (rg [oq 104 (ar .neq (tm 6) (zi 0)) [104]] [1,3,6,104])
 (.cond (tm 104) (.seq (rg [oq 2 (.mv (tm 6)) [105]] [2])
 .ret)
 .skip)))
 (.seq (.seq (rg [ao 106 6 1,ld 107 106,op 108 (.len false (tm 107)),op 109 (.mv (zi 0))] [1,3,108,109])
 (.block 1 (.loop lp174_0)))
 (.seq (.seq (rg [oq 119 (.addOff 0 (tm 1)) [131],ld 120 119,op 122 (ar .neq (tm 120) (zi 11)),gt 123 122 (.addOff 6 (tm 3)) [],gt 124 122 (l1 (tm 123)) [],op 126 (.pick (tm 122) (tm 124) (.lit (.bool false))),gt 127 126 (.addOff 6 (tm 1)) [],gt 128 126 (l1 (tm 127)) [],gt 129 126 (.len false (tm 128)) [],gt 130 126 (ar .eql (tm 129) (zi 0)) [],op 131 (.pick (tm 126) (tm 130) (.lit (.bool false)))] [131])
 (.cond (tm 131) (.seq (rg [op 2 (.mv (zi 7))] [2])
 .ret)
 .skip))
 (.seq (rg [op 2 (.mv (zi 0))] [2])
 .ret)))))))))))⟩
theorem good174:Good Tryz.prog (174,af174):=mkK Z0 Tryz.func174 (by kernel_rfl)
def af175:AFunc:=⟨8,2,[.tmp 3],
 (.seq (rg [oq 2 (.box (tm 0)) [3]] [1,2])
 (.seq (rg [op 4 (.load true 7 (tm 2)),op 5 (.call (.fn 131) [(tm 4)]),on (.store 1 (tm 1) (tm 5))] [1])
 (.seq (rg [oq 6 (l1 (tm 1)) [7],op 3 (ar .eql (tm 6) (zi 0))] [3])
 .ret)))⟩
theorem good175:Good Tryz.prog (175,af175):=mkK Z0 Tryz.func175 (by kernel_rfl)
def af176:AFunc:=⟨5,1,[.tmp 2],
 (.seq (rg [op 2 (.mv (tm 2))] [0])
 (.seq (rg [oq 2 (.call (.fn 179) [(tm 0),(.lit (.int .u8 65)),(.lit (.int .u8 90)),(.lit (.bool false))]) [4]] [2])
 .ret))⟩
theorem good176:Good Tryz.prog (176,af176):=mkK Z0 Tryz.func176 (by kernel_rfl)
def lp177_0:ACode:=
 (.seq (.seq (rg [oq 6 (.len false (tm 0)) [7],op 7 (ar .lss (tm 3) (tm 6))] [0,3,7])
 (.cond (tm 7) .skip
 (.exit 0)))
 (.seq (.block 1 (.seq (.seq (rg [oq 12 (.indexAddrS 1 (tm 0) (tm 3)) [15],ld 13 12,op 14 (.call (.fn 135) [(tm 13)]),op 15 (.not (tm 14))] [0,3,15])
 (.cond (tm 15) (.seq (rg [op 2 (.mv (zi 4))] [2])
 .ret)
 .skip))
 (.seq (dr [oq 16 (.mv (tm 0)) [0],oq 17 (.mv (tm 3)) [3],oq 18 (.sliceRow 1 (tm 16) none (some (tm 17)) none) [16,17],oq 19 (.mv (tm 0)) [0],oq 20 (.mv (tm 3)) [3],oq 21 (.indexAddrS 1 (tm 19) (tm 20)) [19,20],lq 22 21,oq 23 (.call (.fn 122) [(tm 18),(tm 22)]) [18,22]] [0,0,3,0,0,24,56,127] [0,3,23])
 (.cond (tm 23) (.seq (rg [op 2 (.mv (zi 5))] [2])
 .ret)
 .skip))))
 (rg [oq 8 (.mv (tm 3)) [9],op 3 (ar .add (tm 8) (zi 1))] [0,3])))
def af177:AFunc:=⟨24,1,[.tmp 2],
 (.seq (rg [op 2 (.mv (tm 2))] [0])
 (.seq (.seq (rg [op 3 (.mv (zi 0))] [0,3])
 (.block 0 (.loop lp177_0)))
 (.seq (rg [op 2 (.mv (zi 0))] [2])
 .ret)))⟩
theorem good177:Good Tryz.prog (177,af177):=mkK Z0 Tryz.func177 (by kernel_rfl)
def af178:AFunc:=⟨12,1,[.tmp 2],
 (.seq (rg [oq 1 (.box (tm 0)) [2]] [1])
 (.seq (.seq (rg [oq 4 (.load true 6 (tm 1)) [5],op 3 (.call (.fn 71) [(tm 4)])] [1,3])
 (.seq (rg [oq 7 (ar .neq (tm 3) (zi 0)) [7]] [1,3,7])
 (.cond (tm 7) (.seq (rg [oq 2 (.mv (tm 3)) [8]] [2])
 .ret)
 .skip)))
 (.seq (.seq (rg [op 9 (.load true 6 (tm 1)),op 10 (.call (.fn 204) [(tm 9)]),op 11 (.not (tm 10))] [11])
 (.cond (tm 11) (.seq (rg [op 2 (.mv (zi 1))] [2])
 .ret)
 .skip))
 (.seq (rg [op 2 (.mv (zi 0))] [2])
 .ret))))⟩
theorem good178:Good Tryz.prog (178,af178):=mkK Z0 Tryz.func178 (by kernel_rfl)
def lp179_0:ACode:=
 (.seq (.seq (rg [oq 38 (.len true (tm 0)) [39],op 39 (ar .lss (tm 9) (tm 38))] [0,9,39])
 (.cond (tm 39) .skip
 (.exit 0)))
 (.seq (.block 1 (.seq (rg [oq 10 (.indexStr (tm 0) (tm 9)) [44]] [0,9,10])
 (.seq (rg [oq 47 (ar .geq (tm 10) (.lit (.int .u8 97))) [71],gt 48 47 (.mv (tm 10)) [],gt 49 47 (ar .leq (tm 48) (.lit (.int .u8 122))) [],op 51 (.pick (tm 47) (tm 49) (.lit (.bool false))),gf 52 51 (.mv (tm 10)) [],gf 53 51 (ar .geq (tm 52) (.lit (.int .u8 65))) [],gf 54 51 (.mv (tm 53)) [],gt 55 54 (.mv (tm 10)) [],gt 56 54 (ar .leq (tm 55) (.lit (.int .u8 90))) [],gf 57 51 (.pick (tm 54) (tm 56) (.lit (.bool false))) [],op 59 (.pick (tm 51) (.lit (.bool true)) (tm 57)),gf 60 59 (.mv (tm 10)) [],gf 61 59 (ar .geq (tm 60) (.lit (.int .u8 48))) [],gf 62 59 (.mv (tm 61)) [],gt 63 62 (.mv (tm 10)) [],gt 64 62 (ar .leq (tm 63) (.lit (.int .u8 57))) [],gf 65 59 (.pick (tm 62) (tm 64) (.lit (.bool false))) [],op 67 (.pick (tm 59) (.lit (.bool true)) (tm 65)),gf 68 67 (.mv (tm 10)) [],gf 69 67 (ar .eql (tm 68) (.lit (.int .u8 95))) [],op 70 (.pick (tm 67) (.lit (.bool true)) (tm 69)),op 71 (.not (tm 70))] [0,9,71])
 (.cond (tm 71) (.seq (rg [op 8 (.mv (.lit (.bool false)))] [8])
 .ret)
 .skip))))
 (rg [oq 40 (.mv (tm 9)) [41],op 9 (ar .add (tm 40) (zi 1))] [0,9])))
def af179:AFunc:=⟨72,4,[.tmp 8],
 (.seq (rg [op 8 (.mv (tm 8))] [0,1,2,3])
 (.seq (.seq (rg [oq 12 (.len true (tm 0)) [35],op 13 (.call (.fn 157) [(tm 12),(zi 1),(zi 12)]),op 15 (.not (tm 13)),gf 16 15 (.mv (tm 0)) [],gf 17 15 (.indexStr (tm 16) (zi 0)) [],gf 18 15 (.mv (tm 1)) [],gf 19 15 (ar .geq (tm 17) (tm 18)) [],gf 20 15 (.mv (tm 19)) [],gt 21 20 (.mv (tm 0)) [],gt 22 20 (.indexStr (tm 21) (zi 0)) [],gt 23 20 (.mv (tm 2)) [],gt 24 20 (ar .leq (tm 22) (tm 23)) [],gf 25 15 (.pick (tm 20) (tm 24) (.lit (.bool false))) [],gf 26 15 (.mv (tm 25)) [],gf 27 26 (.mv (tm 3)) [],gf 28 26 (.mv (tm 27)) [],gt 29 28 (.mv (tm 0)) [],gt 30 28 (.indexStr (tm 29) (zi 0)) [],gt 31 28 (ar .eql (tm 30) (.lit (.int .u8 95))) [],gf 32 26 (.pick (tm 28) (tm 31) (.lit (.bool false))) [],gf 33 15 (.pick (tm 26) (.lit (.bool true)) (tm 32)) [],gf 34 15 (.not (tm 33)) [],op 35 (.pick (tm 15) (.lit (.bool true)) (tm 34))] [0,35])
 (.cond (tm 35) (.seq (rg [op 8 (.mv (.lit (.bool false)))] [8])
 .ret)
 .skip))
 (.seq (.seq (rg [op 9 (.mv (zi 0))] [0,9])
 (.block 0 (.loop lp179_0)))
 (.seq (rg [op 8 (.mv (.lit (.bool true)))] [8])
 .ret))))⟩
theorem good179:Good Tryz.prog (179,af179):=mkK Z0 Tryz.func179 (by kernel_rfl)
def af180:AFunc:=⟨2,0,[.tmp 0],
 (.seq (rg [op 0 (.mv (tm 0))] [])
 (.seq (rg [oq 0 (.buildSlice 1 25 [(.str [])] [(0,(.lit (.str [102,117,110]))),(1,(.lit (.str [108,101,116]))),(2,(.lit (.str [114,101,99]))),(3,(.lit (.str [105,110]))),(4,(.lit (.str [105,102]))),(5,(.lit (.str [116,104,101,110]))),(6,(.lit (.str [101,108,115,101]))),(7,(.lit (.str [109,97,116,99,104]))),(8,(.lit (.str [100,111]))),(9,(.lit (.str [104,97,110,100,108,101]))),(10,(.lit (.str [115,104,97,108,108,111,119]))),(11,(.lit (.str [110,97,109,101,100]))),(12,(.lit (.str [109,97,115,107]))),(13,(.lit (.str [117,115,105,110,103]))),(14,(.lit (.str [99,108,111,115,101]))),(15,(.lit (.str [114,101,115,117,109,101]))),(16,(.lit (.str [100,114,111,112]))),(17,(.lit (.str [114,101,116,117,114,110]))),(18,(.lit (.str [116,114,117,101]))),(19,(.lit (.str [102,97,108,115,101]))),(20,(.lit (.str [100,97,116,97]))),(21,(.lit (.str [101,102,102,101,99,116]))),(22,(.lit (.str [111,110,99,101]))),(23,(.lit (.str [100,101,102]))),(24,(.lit (.str [109,97,105,110])))]) [1]] [0])
 .ret))⟩
theorem good180:Good Tryz.prog (180,af180):=mkK Z0 Tryz.func180 (by kernel_rfl)
def af181:AFunc:=⟨115,1,[.tmp 2],
 (.seq (rg [oq 1 (.box (tm 0)) [2]] [1])
 (.seq (rg [oq 3 (.call (.fn 205) []) [8]] [1,3])
 (.seq (.seq (rg [oq 9 (.addOff 0 (tm 1)) [15],ld 10 9,op 12 (.len false (tm 3)),op 13 (ar .sub (tm 12) (zi 1)),op 14 (.call (.fn 157) [(tm 10),(zi 0),(tm 13)]),op 15 (.not (tm 14))] [1,3,15])
 (.cond (tm 15) (.seq (rg [op 2 (.mv (zi 1))] [2])
 .ret)
 .skip))
 (.seq (rg [oq 17 (.addOff 0 (tm 1)) [20],ld 18 17,op 19 (.indexAddrS 7 (tm 3) (tm 18)),op 20 (.load true 7 (tm 19)),op 4 (.alloc z7),on (.store 7 (tm 4) (tm 20))] [1,4])
 (.seq (.seq (rg [ao 21 1 1,ld 22 21,ao 23 5 4,ld 24 23,ao 25 6 4,ld 26 25,op 27 (.call (.fn 157) [(tm 22),(tm 24),(tm 26)]),op 28 (.not (tm 27))] [1,4,28])
 (.cond (tm 28) (.seq (rg [op 2 (.mv (zi 1))] [2])
 .ret)
 .skip))
 (.seq (.seq (rg [oq 29 (.addOff 2 (tm 1)) [42],ld 30 29,ao 31 0 4,ld 32 31,op 33 (.call (.fn 167) [(tm 30),(tm 32)]),op 35 (.not (tm 33)),gf 36 35 (.addOff 3 (tm 1)) [],gf 37 35 (l1 (tm 36)) [],gf 38 35 (.addOff 1 (tm 4)) [],gf 39 35 (l1 (tm 38)) [],gf 40 35 (.call (.fn 167) [(tm 37),(tm 39)]) [],gf 41 35 (.not (tm 40)) [],op 42 (.pick (tm 35) (.lit (.bool true)) (tm 41))] [1,4,42])
 (.cond (tm 42) (.seq (rg [op 2 (.mv (zi 4))] [2])
 .ret)
 .skip))
 (.seq (rg [oq 43 (.addOff 4 (tm 1)) [65],ld 44 43,op 45 (.len false (tm 44)),ao 46 2 4,ld 47 46,op 49 (ar .eql (tm 45) (tm 47)),gf 50 49 (.addOff 0 (tm 1)) [],gf 51 49 (l1 (tm 50)) [],gf 52 49 (ar .eql (tm 51) (zi 17)) [],gf 53 49 (.mv (tm 52)) [],gt 54 53 (.addOff 4 (tm 1)) [],gt 55 53 (l1 (tm 54)) [],gt 56 53 (.len false (tm 55)) [],gt 57 53 (ar .geq (tm 56) (zi 1)) [],gf 58 49 (.pick (tm 53) (tm 57) (.lit (.bool false))) [],gf 59 49 (.mv (tm 58)) [],gt 60 59 (.addOff 4 (tm 1)) [],gt 61 59 (l1 (tm 60)) [],gt 62 59 (.len false (tm 61)) [],gt 63 59 (ar .leq (tm 62) (zi 13)) [],gf 64 49 (.pick (tm 59) (tm 63) (.lit (.bool false))) [],op 5 (.pick (tm 49) (.lit (.bool true)) (tm 64))] [1,4,5])
 (.seq (rg [oq 66 (.addOff 5 (tm 1)) [82],ld 67 66,op 68 (.len false (tm 67)),ao 69 3 4,ld 70 69,op 72 (ar .eql (tm 68) (tm 70)),gf 73 72 (.addOff 0 (tm 1)) [],gf 74 72 (l1 (tm 73)) [],gf 75 72 (ar .eql (tm 74) (zi 10)) [],gf 76 72 (.mv (tm 75)) [],gt 77 76 (.addOff 5 (tm 1)) [],gt 78 76 (l1 (tm 77)) [],gt 79 76 (.len false (tm 78)) [],gt 80 76 (ar .leq (tm 79) (zi 4)) [],gf 81 72 (.pick (tm 76) (tm 80) (.lit (.bool false))) [],op 6 (.pick (tm 72) (.lit (.bool true)) (tm 81))] [1,4,5,6])
 (.seq (.seq (rg [oq 85 (.not (tm 5)) [105],gf 86 85 (.mv (tm 6)) [],gf 87 85 (.not (tm 86)) [],op 89 (.pick (tm 85) (.lit (.bool true)) (tm 87)),gf 90 89 (.addOff 4 (tm 4)) [],gf 91 89 (l1 (tm 90)) [],gf 92 89 (.not (tm 91)) [],gf 93 89 (.mv (tm 92)) [],gt 94 93 (.addOff 6 (tm 1)) [],gt 95 93 (l1 (tm 94)) [],gt 96 93 (.len false (tm 95)) [],gt 97 93 (ar .gtr (tm 96) (zi 0)) [],gf 98 89 (.pick (tm 93) (tm 97) (.lit (.bool false))) [],op 100 (.pick (tm 89) (.lit (.bool true)) (tm 98)),gf 101 100 (.addOff 6 (tm 1)) [],gf 102 100 (l1 (tm 101)) [],gf 103 100 (.len false (tm 102)) [],gf 104 100 (ar .gtr (tm 103) (zi 9)) [],op 105 (.pick (tm 100) (.lit (.bool true)) (tm 104))] [1,4,105])
 (.cond (tm 105) (.seq (rg [op 2 (.mv (zi 7))] [2])
 .ret)
 .skip))
 (.seq (.seq (rg [oq 106 (.load true 7 (tm 1)) [107],op 7 (.call (.fn 206) [(tm 106)])] [1,4,7])
 (.seq (rg [oq 109 (ar .neq (tm 7) (zi 0)) [109]] [1,4,7,109])
 (.cond (tm 109) (.seq (rg [oq 2 (.mv (tm 7)) [110]] [2])
 .ret)
 .skip)))
 (.seq (.seq (rg [ao 111 4 4,ld 112 111] [1,112])
 (.cond (tm 112) (.seq (rg [oq 113 (.load true 7 (tm 1)) [114],op 2 (.call (.fn 207) [(tm 113)])] [2])
 .ret)
 .skip))
 (.seq (rg [op 2 (.mv (zi 0))] [2])
 .ret))))))))))))⟩
theorem good181:Good Tryz.prog (181,af181):=mkK Z0 Tryz.func181 (by kernel_rfl)
def lp182_0:ACode:=
 (.seq (rg [op 10 (ar .lss (tm 9) (tm 8))] [0,1,7,8,9,10])
 (.seq (.cond (tm 10) .skip
 (.exit 0))
 (.seq (.block 1 (.seq (rg [oq 12 (.indexAddrS 1 (tm 7) (tm 9)) [13],ld 13 12,op 5 (.mv (tm 9)),op 6 (.mv (tm 13))] [0,1,5,6,7,8,9])
 (.block 2 (.seq (rg [oq 17 (.call (.fn 143) [(tm 6),(tm 1)]) [18],op 14 (.not (tm 17))] [0,1,5,6,7,8,9,14])
 (.cond (tm 14) (.seq (rg [op 4 (.mv (zi 4))] [4])
 .ret)
 (.seq (rg [oq 22 (.sliceRow 1 (tm 0) none (some (tm 5)) none) [24],op 19 (.call (.fn 111) [(tm 22),(tm 6)])] [0,1,7,8,9,19])
 (.cond (tm 19) (.seq (rg [op 4 (.mv (zi 5))] [4])
 .ret)
 .skip)))))))
 (rg [oq 9 (ar .add (tm 9) (zi 1)) [25]] [0,1,7,8,9]))))
def af182:AFunc:=⟨26,2,[.tmp 4],
 (.seq (rg [op 4 (.mv (tm 4))] [0,1])
 (.seq (.seq (rg [op 7 (.mv (tm 0)),op 8 (.len false (tm 7)),op 9 (.mv (zi 0))] [0,1,7,8,9])
 (.block 0 (.loop lp182_0)))
 (.seq (rg [op 4 (.mv (zi 0))] [4])
 .ret)))⟩
theorem good182:Good Tryz.prog (182,af182):=mkK Z0 Tryz.func182 (by kernel_rfl)
def lp183_0:ACode:=
 (.seq (rg [op 9 (ar .lss (tm 8) (tm 7))] [6,7,8,9])
 (.seq (.cond (tm 9) .skip
 (.exit 0))
 (.seq (.block 1 (.seq (rg [op 10 (.indexAddrS 6 (tm 6) (tm 8)),op 11 (.load true 6 (tm 10)),op 4 (.alloc z6),on (.store 6 (tm 4) (tm 11))] [4,6,7,8])
 (.seq (.seq (rg [oq 12 (.load true 6 (tm 4)) [13],op 5 (.call (.fn 60) [(tm 12)])] [4,5,6,7,8])
 (.seq (rg [oq 15 (ar .neq (tm 5) (zi 0)) [15]] [4,5,6,7,8,15])
 (.cond (tm 15) (.seq (rg [oq 2 (.mv (tm 5)) [16]] [2])
 .ret)
 .skip)))
 (.seq (rg [op 17 (.load true 6 (tm 4)),op 18 (.call (.fn 208) [(tm 17)]),op 19 (.not (tm 18))] [6,7,8,19])
 (.cond (tm 19) (.seq (rg [op 2 (.mv (zi 1))] [2])
 .ret)
 .skip)))))
 (rg [oq 8 (ar .add (tm 8) (zi 1)) [20]] [6,7,8]))))
def af183:AFunc:=⟨21,1,[.tmp 2],
 (.seq (rg [op 2 (.mv (tm 2))] [0])
 (.seq (.seq (rg [op 6 (.mv (tm 0)),op 7 (.len false (tm 6)),op 8 (.mv (zi 0))] [6,7,8])
 (.block 0 (.loop lp183_0)))
 (.seq (rg [op 2 (.mv (zi 0))] [2])
 .ret)))⟩
theorem good183:Good Tryz.prog (183,af183):=mkK Z0 Tryz.func183 (by kernel_rfl)
def af184:AFunc:=⟨10,1,[.tmp 2],
 (.seq (rg [op 2 (.mv (tm 2))] [0])
 (.seq (rg [oq 5 (.call (.fn 209) [(tm 0),(zi 2)]) [9],gt 6 5 (.mv (tm 0)) [],gt 7 5 (.call (.fn 210) [(tm 6)]) [],gt 8 5 (.not (tm 7)) [],op 2 (.pick (tm 5) (tm 8) (.lit (.bool false)))] [2])
 .ret))⟩
theorem good184:Good Tryz.prog (184,af184):=mkK Z0 Tryz.func184 (by kernel_rfl)
def af185:AFunc:=⟨5,1,[.tmp 2],
 (.seq (rg [op 2 (.mv (tm 2))] [0])
 (.seq (rg [oq 2 (.call (.fn 209) [(tm 0),(zi 3)]) [4]] [2])
 .ret))⟩
theorem good185:Good Tryz.prog (185,af185):=mkK Z0 Tryz.func185 (by kernel_rfl)
noncomputable def af186:AFunc:=cZ Tryz.prog Z0 Tryz.f186
theorem good186:Good Tryz.prog (186,af186):=mkC Z0 Tryz.func186 (by kernel_rfl)
noncomputable def af187:AFunc:=cZ Tryz.prog Z0 Tryz.f187
theorem good187:Good Tryz.prog (187,af187):=mkC Z0 Tryz.func187 (by kernel_rfl)
noncomputable def af188:AFunc:=cZ Tryz.prog Z0 Tryz.f188
theorem good188:Good Tryz.prog (188,af188):=mkC Z0 Tryz.func188 (by kernel_rfl)
noncomputable def af189:AFunc:=cZ Tryz.prog Z0 Tryz.f189
theorem good189:Good Tryz.prog (189,af189):=mkC Z0 Tryz.func189 (by kernel_rfl)
noncomputable def af191:AFunc:=cZ Tryz.prog Z0 Tryz.f191
theorem good191:Good Tryz.prog (191,af191):=mkC Z0 Tryz.func191 (by kernel_rfl)
noncomputable def af192:AFunc:=cZ Tryz.prog Z0 Tryz.f192
theorem good192:Good Tryz.prog (192,af192):=mkC Z0 Tryz.func192 (by kernel_rfl)
def lp195_0:ACode:=
 (.seq (.seq (rg [oq 9 (.len false (tm 1)) [10],op 10 (ar .lss (tm 6) (tm 9))] [1,2,5,6,10])
 (.cond (tm 10) .skip
 (.exit 0)))
 (.seq (.block 1 (dr [oq 13 (.mv (tm 5)) [5],oq 14 (.mv (tm 1)) [1],oq 15 (.mv (tm 6)) [6],oq 16 (.indexAddrS 6 (tm 14) (tm 15)) [14,15],oq 17 (.load true 6 (tm 16)) [16],aq 18 6 2,lq 19 18,aq 20 7 2,lq 21 20,oq 22 (.build [(.int .i64 0),(.int .i64 0),(.str []),(.slice []),(.slice []),(.int .i64 0),(.slice []),(.slice [])] [(0,6,(tm 17)),(6,1,(tm 19)),(7,1,(tm 21))]) [17,19,21],oq 23 (.buildSlice 8 1 z8 [(0,(tm 22))]) [22],oq 24 (.append 8 136 (tm 13) (tm 23)) [13,23],oq 5 (.mv (tm 24)) [24]] [0,0,0,6,14,0,32,0,128,510,1022,2047,4095] [1,2,5,6]))
 (rg [oq 11 (.mv (tm 6)) [12],op 6 (ar .add (tm 11) (zi 1))] [1,2,5,6])))
def af195:AFunc:=⟨26,2,[.tmp 4],
 (.seq (rg [oq 2 (.box (tm 0)) [4]] [1,2])
 (.seq (rg [op 5 (.newrow 8)] [1,2,5])
 (.seq (.seq (rg [op 6 (.mv (zi 0))] [1,2,5,6])
 (.block 0 (.loop lp195_0)))
 (.seq (rg [oq 4 (.mv (tm 5)) [25]] [4])
 .ret))))⟩
theorem good195:Good Tryz.prog (195,af195):=mkK (fun t=>t==5||t==22) Tryz.func195 (by kernel_rfl)
def lp197_0:ACode:=
 (.seq (rg [op 9 (ar .lss (tm 8) (tm 7))] [0,1,7,8,9])
 (.seq (.cond (tm 9) .skip
 (.exit 0))
 (.seq (.block 1 (.seq (rg [oq 5 (.mv (tm 8)) [10]] [0,1,5,7,8])
 (.seq (rg [oq 14 (.indexAddrS 6 (tm 0) (tm 5)) [16],op 15 (.load true 6 (tm 14)),op 16 (.call (.val (tm 1)) [(tm 15)])] [0,1,5,7,8,16])
 (.cond (tm 16) (.seq (rg [oq 4 (.mv (tm 5)) [17]] [4])
 .ret)
 .skip))))
 (rg [oq 8 (ar .add (tm 8) (zi 1)) [18]] [0,1,7,8]))))
def af197:AFunc:=⟨19,2,[.tmp 4],
 (.seq (rg [op 4 (.mv (tm 4))] [0,1])
 (.seq (.seq (rg [oq 7 (.len false (tm 0)) [8],op 8 (.mv (zi 0))] [0,1,7,8])
 (.block 0 (.loop lp197_0)))
 (.seq (rg [op 4 (.mv (zi (-1)))] [4])
 .ret)))⟩
theorem good197:Good Tryz.prog (197,af197):=mkK Z0 Tryz.func197 (by kernel_rfl)
def af198:AFunc:=⟨15,3,[.tmp 6],
 (.seq (rg [op 6 (.mv (tm 6))] [0,1,2])
 (.seq (rg [oq 10 (ar .leq (tm 1) (tm 0)) [14],gt 11 10 (.mv (tm 0)) [],gt 12 10 (.mv (tm 2)) [],gt 13 10 (ar .leq (tm 11) (tm 12)) [],op 6 (.pick (tm 10) (tm 13) (.lit (.bool false)))] [6])
 .ret))⟩
theorem good198:Good Tryz.prog (198,af198):=mkK Z0 Tryz.func198 (by kernel_rfl)
def af199:AFunc:=⟨11,1,[.tmp 2,.tmp 3],
 (.seq (rg [op 3 (.mv (tm 3))] [0])
 (.seq (.seq (rg [op 4 (.mv (tm 0))] [4])
 (.block 0 (.seq (rg [oq 5 (ar .eql (tm 4) (.lit (.str [73,110,116]))) [6]] [4,5])
 (.cond (tm 5) (.seq (rg [op 2 (.mv (zi 2)),op 3 (.mv (.lit (.bool true)))] [2,3])
 .ret)
 (.seq (rg [oq 7 (ar .eql (tm 4) (.lit (.str [66,111,111,108]))) [8]] [4,7])
 (.cond (tm 7) (.seq (rg [op 2 (.mv (zi 3)),op 3 (.mv (.lit (.bool true)))] [2,3])
 .ret)
 (.seq (rg [oq 9 (ar .eql (tm 4) (.lit (.str [85,110,105,116]))) [10]] [9])
 (.cond (tm 9) (.seq (rg [op 2 (.mv (zi 4)),op 3 (.mv (.lit (.bool true)))] [2,3])
 .ret)
 .skip))))))))
 (.seq (rg [op 2 (.mv (zi 0)),op 3 (.mv (.lit (.bool false)))] [2,3])
 .ret)))⟩
theorem good199:Good Tryz.prog (199,af199):=mkK Z0 Tryz.func199 (by kernel_rfl)
def lp200_0:ACode:=
 (.seq (rg [op 9 (ar .lss (tm 8) (tm 7))] [1,6,7,8,9])
 (.seq (.cond (tm 9) .skip
 (.exit 0))
 (.seq (.block 1 (.seq (rg [op 10 (.indexAddrS 2 (tm 6) (tm 8)),op 11 (.load true 2 (tm 10)),op 4 (.alloc [(.str []),(.int .i64 0)]),on (.store 2 (tm 4) (tm 11))] [1,4,6,7,8])
 (.block 2 (.seq (rg [oq 13 (.addOff 0 (tm 4)) [16],ld 14 13,op 15 (.call (.fn 143) [(tm 14),(zi 2)]),op 12 (.not (tm 15))] [1,4,6,7,8,12])
 (.cond (tm 12) (.seq (rg [op 2 (.mv (zi 4))] [2])
 .ret)
 (.seq (rg [oq 18 (.addOff 1 (tm 4)) [21],ld 19 18,op 20 (.call (.fn 198) [(tm 19),(zi 0),(zi 999999999)]),op 17 (.not (tm 20))] [1,6,7,8,17])
 (.cond (tm 17) (.seq (rg [op 2 (.mv (zi 1))] [2])
 .ret)
 .skip)))))))
 (rg [oq 8 (ar .add (tm 8) (zi 1)) [22]] [1,6,7,8]))))
def af200:AFunc:=⟨27,1,[.tmp 2],
 (.seq (rg [oq 1 (.box (tm 0)) [2]] [1])
 (.seq (.seq (rg [ao 5 0 1,ld 6 5,op 7 (.len false (tm 6)),op 8 (.mv (zi 0))] [1,6,7,8])
 (.block 0 (.loop lp200_0)))
 (.seq (.seq (rg [ao 23 1 1,ld 24 23,op 25 (.call (.fn 198) [(tm 24),(zi (-1)),(zi 999999999)]),op 26 (.not (tm 25))] [26])
 (.cond (tm 26) (.seq (rg [op 2 (.mv (zi 1))] [2])
 .ret)
 .skip))
 (.seq (rg [op 2 (.mv (zi 0))] [2])
 .ret))))⟩
theorem good200:Good Tryz.prog (200,af200):=mkK Z0 Tryz.func200 (by kernel_rfl)
def lp201_0:ACode:=
 (.seq (rg [op 9 (ar .lss (tm 8) (tm 7))] [0,1,7,8,9])
 (.seq (.cond (tm 9) .skip
 (.exit 0))
 (.seq (.block 1 (.seq (rg [oq 5 (.mv (tm 8)) [10]] [0,1,5,7,8])
 (.seq (rg [oq 14 (.indexAddrS 3 (tm 0) (tm 5)) [16],op 15 (.load true 3 (tm 14)),op 16 (.call (.val (tm 1)) [(tm 15)])] [0,1,5,7,8,16])
 (.cond (tm 16) (.seq (rg [oq 4 (.mv (tm 5)) [17]] [4])
 .ret)
 .skip))))
 (rg [oq 8 (ar .add (tm 8) (zi 1)) [18]] [0,1,7,8]))))
def af201:AFunc:=⟨19,2,[.tmp 4],
 (.seq (rg [op 4 (.mv (tm 4))] [0,1])
 (.seq (.seq (rg [oq 7 (.len false (tm 0)) [8],op 8 (.mv (zi 0))] [0,1,7,8])
 (.block 0 (.loop lp201_0)))
 (.seq (rg [op 4 (.mv (zi (-1)))] [4])
 .ret)))⟩
theorem good201:Good Tryz.prog (201,af201):=mkK Z0 Tryz.func201 (by kernel_rfl)
def af203:AFunc:=⟨61,2,[.tmp 4],
 (.seq (rg [oq 2 (.box (tm 0)) [4]] [1,2])
 (.seq (rg [oq 9 (.addOff 6 (tm 2)) [13],ld 10 9,op 12 (.indexAddrS 9 (tm 10) (tm 1)),op 13 (.load true 9 (tm 12)),op 5 (.alloc z9a),on (.store 9 (tm 5) (tm 13))] [1,2,5])
 (.seq (dr [aq 14 1 5,lq 15 14,oq 16 (.len false (tm 15)) [15],oq 17 (ar .eql (tm 16) (zi 2)) [16],op 6 (.mv (zi 1)),oq 7 (.mv (tm 17)) [17]] [0,1,3,7,0,31] [1,2,5,6,7])
 (.seq (.block 0 (.seq (rg [oq 19 (.addOff 0 (tm 2)) [21],ld 20 19,op 18 (ar .eql (tm 20) (zi 11))] [1,2,5,6,7,18])
 (.cond (tm 18) (dr [aq 22 1 5,lq 23 22,oq 24 (.len false (tm 23)) [23],oq 25 (ar .leq (tm 24) (zi 4)) [24],op 6 (.mv (zi 2)),oq 7 (.mv (tm 25)) [25]] [0,1,3,7,0,31] [1,2,5,6,7])
 (.seq (rg [oq 26 (ar .eql (tm 1) (zi 0)) [28]] [1,2,5,6,7,26])
 (.cond (tm 26) (dr [aq 29 1 5,lq 30 29,oq 31 (.len false (tm 30)) [30],oq 32 (ar .eql (tm 31) (zi 1)) [31],oq 33 (.mv (tm 32)) [32],gt 34 33 (.addOff 0 (tm 5)) [5,33],gt 35 33 (l1 (tm 34)) [34,33],gt 36 33 (ar .eql (tm 35) (.lit (.str [114,101,116,117,114,110]))) [35,33],oq 37 (.pick (tm 33) (tm 36) (.lit (.bool false))) [33,36],op 6 (.mv (zi 0)),oq 7 (.mv (tm 37)) [37]] [0,1,3,7,15,31,63,127,255,31,1023] [1,2,5,6,7])
 .skip)))))
 (.seq (.seq (rg [oq 39 (.not (tm 7)) [39]] [1,2,5,6,39])
 (.cond (tm 39) (.seq (rg [op 4 (.mv (zi 7))] [4])
 .ret)
 .skip))
 (.seq (.seq (rg [oq 42 (ar .neq (tm 6) (zi 0)) [48],gt 43 42 (.addOff 0 (tm 5)) [],gt 44 42 (l1 (tm 43)) [],gt 45 42 (.mv (tm 6)) [],gt 46 42 (.call (.fn 143) [(tm 44),(tm 45)]) [],gt 47 42 (.not (tm 46)) [],op 48 (.pick (tm 42) (tm 47) (.lit (.bool false)))] [1,2,5,48])
 (.cond (tm 48) (.seq (rg [op 4 (.mv (zi 4))] [4])
 .ret)
 .skip))
 (.seq (.seq (rg [oq 49 (.addOff 1 (tm 5)) [51],ld 50 49,op 8 (.call (.fn 182) [(tm 50),(zi 1)])] [1,2,5,8])
 (.seq (rg [oq 53 (ar .neq (tm 8) (zi 0)) [53]] [1,2,5,8,53])
 (.cond (tm 53) (.seq (rg [oq 4 (.mv (tm 8)) [54]] [4])
 .ret)
 .skip)))
 (.seq (.seq (rg [oq 55 (.addOff 6 (tm 2)) [60],ld 56 55,op 58 (.sliceRow 9 (tm 56) none (some (tm 1)) none),op 59 (.mkFunc 214 [] [(tm 5)]),op 60 (.call (.fn 213) [(tm 58),(tm 59)])] [60])
 (.cond (tm 60) (.seq (rg [op 4 (.mv (zi 5))] [4])
 .ret)
 .skip))
 (.seq (rg [op 4 (.mv (zi 0))] [4])
 .ret)))))))))⟩
theorem good203:Good Tryz.prog (203,af203):=mkK Z0 Tryz.func203 (by kernel_rfl)
def lp204_0:ACode:=
 (.seq (.seq (rg [oq 20 (.addOff 4 (tm 1)) [24],ao 21 0 20,ld 22 21,op 23 (.len false (tm 22)),op 24 (ar .lss (tm 3) (tm 23))] [1,3,24])
 (.cond (tm 24) .skip
 (.exit 0)))
 (.seq (.block 1 (.seq (rg [oq 27 (.addOff 4 (tm 1)) [34],ao 28 0 27,ld 29 28,op 31 (.indexAddrS 2 (tm 29) (tm 3)),ao 32 1 31,ld 33 32,op 34 (ar .neq (tm 33) (zi 0))] [1,3,34])
 (.cond (tm 34) (.seq (rg [op 2 (.mv (.lit (.bool false)))] [2])
 .ret)
 .skip)))
 (rg [oq 25 (.mv (tm 3)) [26],op 3 (ar .add (tm 25) (zi 1))] [1,3])))
def lp204_1:ACode:=
 (.seq (.seq (rg [oq 36 (.addOff 3 (tm 1)) [39],ld 37 36,op 38 (.len false (tm 37)),op 39 (ar .lss (tm 4) (tm 38))] [1,4,39])
 (.cond (tm 39) .skip
 (.exit 2)))
 (.seq (.block 3 (.seq (rg [oq 42 (.addOff 3 (tm 1)) [48],ld 43 42,op 45 (.indexAddrS 6 (tm 43) (tm 4)),op 46 (.load true 6 (tm 45)),op 47 (.call (.fn 204) [(tm 46)]),op 48 (.not (tm 47))] [1,4,48])
 (.cond (tm 48) (.seq (rg [op 2 (.mv (.lit (.bool false)))] [2])
 .ret)
 .skip)))
 (rg [oq 40 (.mv (tm 4)) [41],op 4 (ar .add (tm 40) (zi 1))] [1,4])))
def af204:AFunc:=⟨49,1,[.tmp 2],
 (.seq (rg [oq 1 (.box (tm 0)) [2]] [1])
 (.seq (.seq (rg [oq 5 (.addOff 0 (tm 1)) [18],ld 6 5,op 8 (ar .eql (tm 6) (zi 0)),gf 9 8 (.addOff 0 (tm 1)) [],gf 10 8 (l1 (tm 9)) [],gf 11 8 (ar .eql (tm 10) (zi 5)) [],gf 12 8 (.mv (tm 11)) [],gt 13 12 (.addOff 4 (tm 1)) [],gt 14 12 (.addOff 1 (tm 13)) [],gt 15 12 (l1 (tm 14)) [],gt 16 12 (ar .neq (tm 15) (zi (-1))) [],gf 17 8 (.pick (tm 12) (tm 16) (.lit (.bool false))) [],op 18 (.pick (tm 8) (.lit (.bool true)) (tm 17))] [1,18])
 (.cond (tm 18) (.seq (rg [op 2 (.mv (.lit (.bool false)))] [2])
 .ret)
 .skip))
 (.seq (.seq (rg [op 3 (.mv (zi 0))] [1,3])
 (.block 0 (.loop lp204_0)))
 (.seq (.seq (rg [op 4 (.mv (zi 0))] [1,4])
 (.block 2 (.loop lp204_1)))
 (.seq (rg [op 2 (.mv (.lit (.bool true)))] [2])
 .ret)))))⟩
theorem good204:Good Tryz.prog (204,af204):=mkK Z0 Tryz.func204 (by kernel_rfl)
def af205:AFunc:=⟨22,0,[.tmp 0],
 (.seq (rg [op 0 (.mv (tm 0))] [])
 (.seq (rg [oq 1 (.build z7 [(0,1,(zi 1))]) [21],op 2 (.build z7 [(5,1,(zi (-999999999))),(6,1,(zi 999999999))]),op 3 (.build z7 [(6,1,(zi 1))]),op 4 (.build z7 []),op 5 (.build z7 [(2,1,(zi 1)),(3,1,(zi 1))]),op 6 (.build z7 [(3,1,(zi 2))]),op 7 (.build z7 [(2,1,(zi 1)),(3,1,(zi 2))]),op 8 (.build z7 [(2,1,(zi 2)),(3,1,(zi 2))]),op 9 (.build z7 [(3,1,(zi 3))]),op 10 (.build z7 [(0,1,(zi 3)),(3,1,(zi 2))]),op 11 (.build z7 [(0,1,(zi 2))]),op 12 (.build z7 [(3,1,(zi 1)),(4,1,(.lit (.bool true)))]),op 13 (.build z7 [(0,1,(zi 1)),(3,1,(zi 1))]),op 14 (.build z7 [(0,1,(zi 1)),(1,1,(zi 1)),(3,1,(zi 1))]),op 15 (.build z7 [(0,1,(zi 2)),(3,1,(zi 1)),(4,1,(.lit (.bool true))),(6,1,(zi 1))]),op 16 (.build z7 [(0,1,(zi 2)),(2,1,(zi 1)),(3,1,(zi 1)),(4,1,(.lit (.bool true)))]),op 17 (.build z7 [(0,1,(zi 2)),(3,1,(zi 1))]),op 18 (.build z7 [(2,1,(zi 1)),(3,1,(zi 3))]),op 19 (.build z7 [(0,1,(zi 1)),(3,1,(zi 1))]),op 20 (.build z7 [(0,1,(zi 1))]),op 0 (.buildSlice 7 20 z7 [(0,(tm 1)),(1,(tm 2)),(2,(tm 3)),(3,(tm 4)),(4,(tm 5)),(5,(tm 6)),(6,(tm 7)),(7,(tm 8)),(8,(tm 9)),(9,(tm 10)),(10,(tm 11)),(11,(tm 12)),(12,(tm 13)),(13,(tm 14)),(14,(tm 15)),(15,(tm 16)),(16,(tm 17)),(17,(tm 18)),(18,(tm 19)),(19,(tm 20))])] [0])
 .ret))⟩
theorem good205:Good Tryz.prog (205,af205):=mkK Z0 Tryz.func205 (by kernel_rfl)
def lp206_0:ACode:=
 (.seq (.seq (rg [oq 19 (.addOff 4 (tm 1)) [22],ld 20 19,op 21 (.len false (tm 20)),op 22 (ar .lss (tm 4) (tm 21))] [1,4,22])
 (.cond (tm 22) .skip
 (.exit 0)))
 (.seq (.block 1 (.seq (.seq (rg [oq 25 (.addOff 4 (tm 1)) [31],ld 26 25,op 28 (.indexAddrS 1 (tm 26) (tm 4)),ld 29 28,op 30 (.call (.fn 176) [(tm 29)]),op 31 (.not (tm 30))] [1,4,31])
 (.cond (tm 31) (.seq (rg [op 2 (.mv (zi 4))] [2])
 .ret)
 .skip))
 (.seq (dr [aq 32 4 1,lq 33 32,oq 34 (.mv (tm 4)) [4],oq 35 (.sliceRow 1 (tm 33) (some (zi 1)) (some (tm 34)) none) [33,34],aq 36 4 1,lq 37 36,oq 38 (.mv (tm 4)) [4],oq 39 (.indexAddrS 1 (tm 37) (tm 38)) [37,38],lq 40 39,oq 41 (.call (.fn 122) [(tm 35),(tm 40)]) [35,40]] [0,1,0,7,0,16,0,112,240,511] [1,4,41])
 (.cond (tm 41) (.seq (rg [op 2 (.mv (zi 5))] [2])
 .ret)
 .skip))))
 (rg [oq 23 (.mv (tm 4)) [24],op 4 (ar .add (tm 23) (zi 1))] [1,4])))
def af206:AFunc:=⟨42,1,[.tmp 2],
 (.seq (rg [oq 1 (.box (tm 0)) [2]] [1])
 (.seq (.seq (rg [ao 5 0 1,ld 6 5,op 7 (ar .neq (tm 6) (zi 17))] [1,7])
 (.cond (tm 7) (.seq (rg [oq 8 (.addOff 4 (tm 1)) [10],ld 9 8,op 2 (.call (.fn 177) [(tm 9)])] [2])
 .ret)
 .skip))
 (.seq (.seq (rg [oq 11 (.addOff 4 (tm 1)) [14],ld 12 11,op 13 (.sliceRow 1 (tm 12) none (some (zi 1)) none),op 3 (.call (.fn 177) [(tm 13)])] [1,3])
 (.seq (rg [oq 16 (ar .neq (tm 3) (zi 0)) [16]] [1,3,16])
 (.cond (tm 16) (.seq (rg [oq 2 (.mv (tm 3)) [17]] [2])
 .ret)
 .skip)))
 (.seq (.seq (rg [op 4 (.mv (zi 1))] [1,4])
 (.block 0 (.loop lp206_0)))
 (.seq (rg [op 2 (.mv (zi 0))] [2])
 .ret)))))⟩
theorem good206:Good Tryz.prog (206,af206):=mkK Z0 Tryz.func206 (by kernel_rfl)
def lp207_0:ACode:=
 (.seq (.seq (rg [oq 97 (ar .lss (tm 8) (tm 4)) [97]] [1,3,4,5,8,97])
 (.cond (tm 97) .skip
 (.exit 2)))
 (.seq (.block 3 (.seq (dr [aq 100 6 1,lq 101 100,oq 102 (.mv (tm 8)) [8],oq 103 (.indexAddrS 9 (tm 101) (tm 102)) [101,102],aq 104 0 103,lq 105 104,aq 106 0 5,lq 107 106,oq 108 (ar .eql (tm 105) (tm 107)) [105,107]] [0,1,0,7,15,31,0,64,255] [1,3,4,5,8,108])
 (.cond (tm 108) (.seq (rg [op 2 (.mv (zi 5))] [2])
 .ret)
 .skip)))
 (rg [oq 98 (.mv (tm 8)) [99],op 8 (ar .add (tm 98) (zi 1))] [1,3,4,5,8])))
def lp207_1:ACode:=
 (.seq (.seq (rg [oq 13 (.addOff 6 (tm 1)) [16],ld 14 13,op 15 (.len false (tm 14)),op 16 (ar .lss (tm 4) (tm 15))] [1,3,4,16])
 (.cond (tm 16) .skip
 (.exit 0)))
 (.seq (.block 1 (.seq (rg [oq 19 (.addOff 6 (tm 1)) [23],ld 20 19,op 22 (.indexAddrS 9 (tm 20) (tm 4)),op 23 (.load true 9 (tm 22)),op 5 (.alloc z9a),on (.store 9 (tm 5) (tm 23))] [1,3,4,5])
 (.seq (rg [oq 25 (.mv (tm 3)) [28],gt 26 25 (.mv (tm 4)) [],gt 27 25 (ar .eql (tm 26) (zi 0)) [],op 6 (.pick (tm 25) (tm 27) (.lit (.bool false)))] [1,3,4,5,6])
 (.seq (.seq (rg [oq 30 (.mv (tm 6)) [63],gt 31 30 (.addOff 0 (tm 5)) [],gt 32 30 (l1 (tm 31)) [],gt 33 30 (ar .neq (tm 32) (.lit (.str [114,101,116,117,114,110]))) [],gt 34 30 (.mv (tm 33)) [],gf 35 34 (.addOff 1 (tm 5)) [],gf 36 34 (l1 (tm 35)) [],gf 37 34 (.len false (tm 36)) [],gf 38 34 (ar .neq (tm 37) (zi 1)) [],gt 39 30 (.pick (tm 34) (.lit (.bool true)) (tm 38)) [],op 41 (.pick (tm 30) (tm 39) (.lit (.bool false))),gf 42 41 (.mv (tm 3)) [],gf 43 41 (.mv (tm 42)) [],gt 44 43 (.mv (tm 6)) [],gt 45 43 (.not (tm 44)) [],gf 46 41 (.pick (tm 43) (tm 45) (.lit (.bool false))) [],gf 47 41 (.mv (tm 46)) [],gt 48 47 (.addOff 1 (tm 5)) [],gt 49 47 (l1 (tm 48)) [],gt 50 47 (.len false (tm 49)) [],gt 51 47 (ar .neq (tm 50) (zi 2)) [],gf 52 41 (.pick (tm 47) (tm 51) (.lit (.bool false))) [],op 54 (.pick (tm 41) (.lit (.bool true)) (tm 52)),gf 55 54 (.mv (tm 3)) [],gf 56 54 (.not (tm 55)) [],gf 57 54 (.mv (tm 56)) [],gt 58 57 (.addOff 1 (tm 5)) [],gt 59 57 (l1 (tm 58)) [],gt 60 57 (.len false (tm 59)) [],gt 61 57 (ar .gtr (tm 60) (zi 4)) [],gf 62 54 (.pick (tm 57) (tm 61) (.lit (.bool false))) [],op 63 (.pick (tm 54) (.lit (.bool true)) (tm 62))] [1,3,4,5,6,63])
 (.cond (tm 63) (.seq (rg [op 2 (.mv (zi 7))] [2])
 .ret)
 .skip))
 (.seq (.seq (rg [oq 66 (.not (tm 6)) [88],gt 67 66 (.addOff 0 (tm 5)) [],gt 68 66 (l1 (tm 67)) [],gt 69 66 (.call (.fn 167) [(tm 68),(zi 2)]) [],gt 70 66 (.not (tm 69)) [],op 72 (.pick (tm 66) (tm 70) (.lit (.bool false))),gt 73 72 (.mv (tm 3)) [],gt 74 72 (.not (tm 73)) [],op 76 (.pick (tm 72) (tm 74) (.lit (.bool false))),gf 77 76 (.mv (tm 6)) [],gf 78 76 (.not (tm 77)) [],gf 79 76 (.mv (tm 78)) [],gt 80 79 (.mv (tm 3)) [],gf 81 76 (.pick (tm 79) (tm 80) (.lit (.bool false))) [],gf 82 76 (.mv (tm 81)) [],gt 83 82 (.addOff 0 (tm 5)) [],gt 84 82 (l1 (tm 83)) [],gt 85 82 (.call (.fn 167) [(tm 84),(zi 1)]) [],gt 86 82 (.not (tm 85)) [],gf 87 76 (.pick (tm 82) (tm 86) (.lit (.bool false))) [],op 88 (.pick (tm 76) (.lit (.bool true)) (tm 87))] [1,3,4,5,88])
 (.cond (tm 88) (.seq (rg [op 2 (.mv (zi 4))] [2])
 .ret)
 .skip))
 (.seq (.seq (rg [oq 89 (.addOff 1 (tm 5)) [91],ld 90 89,op 7 (.call (.fn 177) [(tm 90)])] [1,3,4,5,7])
 (.seq (rg [oq 93 (ar .neq (tm 7) (zi 0)) [93]] [1,3,4,5,7,93])
 (.cond (tm 93) (.seq (rg [oq 2 (.mv (tm 7)) [94]] [2])
 .ret)
 .skip)))
 (.seq (rg [op 8 (.mv (zi 0))] [1,3,4,5,8])
 (.block 2 (.loop lp207_0)))))))))
 (rg [oq 17 (.mv (tm 4)) [18],op 4 (ar .add (tm 17) (zi 1))] [1,3,4])))
def af207:AFunc:=⟨116,1,[.tmp 2],
 (.seq (rg [oq 1 (.box (tm 0)) [2]] [1])
 (.seq (rg [oq 9 (.addOff 0 (tm 1)) [11],ld 10 9,op 3 (ar .neq (tm 10) (zi 11))] [1,3])
 (.seq (.seq (rg [op 4 (.mv (zi 0))] [1,3,4])
 (.block 0 (.loop lp207_1)))
 (.seq (.seq (rg [oq 110 (.mv (tm 3)) [115],gt 111 110 (.addOff 6 (tm 1)) [],gt 112 110 (l1 (tm 111)) [],gt 113 110 (.len false (tm 112)) [],gt 114 110 (ar .eql (tm 113) (zi 0)) [],op 115 (.pick (tm 110) (tm 114) (.lit (.bool false)))] [115])
 (.cond (tm 115) (.seq (rg [op 2 (.mv (zi 7))] [2])
 .ret)
 .skip))
 (.seq (rg [op 2 (.mv (zi 0))] [2])
 .ret)))))⟩
theorem good207:Good Tryz.prog (207,af207):=mkK Z0 Tryz.func207 (by kernel_rfl)
def af208:AFunc:=⟨25,1,[.tmp 2],
 (.seq (rg [oq 1 (.box (tm 0)) [2]] [1])
 (.seq (.seq (rg [oq 3 (.addOff 0 (tm 1)) [16],ld 4 3,op 6 (ar .eql (tm 4) (zi 0)),gf 7 6 (.addOff 0 (tm 1)) [],gf 8 6 (l1 (tm 7)) [],gf 9 6 (ar .eql (tm 8) (zi 5)) [],gf 10 6 (.mv (tm 9)) [],gt 11 10 (.addOff 4 (tm 1)) [],gt 12 10 (.addOff 1 (tm 11)) [],gt 13 10 (l1 (tm 12)) [],gt 14 10 (ar .geq (tm 13) (zi 0)) [],gf 15 6 (.pick (tm 10) (tm 14) (.lit (.bool false))) [],op 16 (.pick (tm 6) (.lit (.bool true)) (tm 15))] [1,16])
 (.cond (tm 16) (.seq (rg [op 2 (.mv (.lit (.bool false)))] [2])
 .ret)
 .skip))
 (.seq (.seq (rg [ao 17 4 1,ao 18 0 17,ld 19 18,op 20 (.call (.fn 215) [(tm 19),(.lit (.func 216 [] []))])] [1,20])
 (.cond (tm 20) (.seq (rg [op 2 (.mv (.lit (.bool false)))] [2])
 .ret)
 .skip))
 (.seq (rg [oq 21 (.addOff 3 (tm 1)) [24],ld 22 21,op 23 (.call (.fn 161) [(tm 22),(.lit (.func 217 [] []))]),op 2 (.not (tm 23))] [2])
 .ret))))⟩
theorem good208:Good Tryz.prog (208,af208):=mkK Z0 Tryz.func208 (by kernel_rfl)
def lp209_0:ACode:=
 (.seq (rg [op 23 (.nextStr (tm 22)),op 24 (.extract (tm 23) 0)] [22,23,24])
 (.seq (.cond (tm 24) .skip
 (.exit 0))
 (.block 1 (.seq (rg [oq 6 (.extract (tm 23) 2) [25]] [6,22])
 (.seq (rg [oq 28 (ar .gtr (tm 6) (.lit (.int .i32 127))) [33],gf 29 28 (.mv (tm 6)) [],gf 30 28 (.toInt .u8 (tm 29)) [],gf 31 28 (.call (.fn 218) [(tm 30)]) [],gf 32 28 (ar .lss (tm 31) (zi 2)) [],op 33 (.pick (tm 28) (.lit (.bool true)) (tm 32))] [22,33])
 (.cond (tm 33) (.seq (rg [op 4 (.mv (.lit (.bool false)))] [4])
 .ret)
 .skip))))))
def af209:AFunc:=⟨34,2,[.tmp 4],
 (.seq (rg [op 4 (.mv (tm 4))] [0,1])
 (.seq (.seq (rg [oq 9 (ar .eql (tm 0) (.lit (.str []))) [20],gf 10 9 (.mv (tm 0)) [],gf 11 9 (.len true (tm 10)) [],gf 12 9 (ar .gtr (tm 11) (zi 12)) [],op 14 (.pick (tm 9) (.lit (.bool true)) (tm 12)),gf 15 14 (.mv (tm 0)) [],gf 16 14 (.indexStr (tm 15) (zi 0)) [],gf 17 14 (.call (.fn 218) [(tm 16)]) [],gf 18 14 (.mv (tm 1)) [],gf 19 14 (ar .neq (tm 17) (tm 18)) [],op 20 (.pick (tm 14) (.lit (.bool true)) (tm 19))] [0,20])
 (.cond (tm 20) (.seq (rg [op 4 (.mv (.lit (.bool false)))] [4])
 .ret)
 .skip))
 (.seq (.seq (rg [oq 22 (.rangeStr (tm 0)) [22]] [22])
 (.block 0 (.loop lp209_0)))
 (.seq (rg [op 4 (.mv (.lit (.bool true)))] [4])
 .ret))))⟩
theorem good209:Good Tryz.prog (209,af209):=mkK Z0 Tryz.func209 (by kernel_rfl)
def af210:AFunc:=⟨12,1,[.tmp 2],
 (.seq (rg [op 2 (.mv (tm 2))] [0])
 (.seq (rg [oq 6 (.call (.fn 219) []) [10],op 5 (.lookup 2 (.int .i64 0) true (tm 6) (tm 0)),op 9 (.extract (tm 5) 0),op 10 (.extract (tm 5) 1),op 4 (.mv (tm 10))] [4])
 (.seq (rg [oq 2 (.mv (tm 4)) [11]] [2])
 .ret)))⟩
theorem good210:Good Tryz.prog (210,af210):=mkK Z0 Tryz.func210 (by kernel_rfl)
def af213:AFunc:=⟨9,2,[.tmp 4],
 (.seq (rg [op 4 (.mv (tm 4))] [0,1])
 (.seq (rg [oq 7 (.call (.fn 220) [(tm 0),(tm 1)]) [8],op 4 (ar .geq (tm 7) (zi 0))] [4])
 .ret))⟩
theorem good213:Good Tryz.prog (213,af213):=mkK Z0 Tryz.func213 (by kernel_rfl)
def af214:AFunc:=⟨9,2,[.tmp 3],
 (.seq (rg [oq 2 (.box (tm 0)) [3]] [1,2])
 (.seq (rg [oq 4 (.addOff 0 (tm 2)) [8],ld 5 4,ao 6 0 1,ld 7 6,op 3 (ar .eql (tm 5) (tm 7))] [3])
 .ret))⟩
theorem good214:Good Tryz.prog (214,af214):=mkK Z0 Tryz.func214 (by kernel_rfl)
def af215:AFunc:=⟨9,2,[.tmp 4],
 (.seq (rg [op 4 (.mv (tm 4))] [0,1])
 (.seq (rg [oq 7 (.call (.fn 221) [(tm 0),(tm 1)]) [8],op 4 (ar .geq (tm 7) (zi 0))] [4])
 .ret))⟩
theorem good215:Good Tryz.prog (215,af215):=mkK Z0 Tryz.func215 (by kernel_rfl)
def af216:AFunc:=⟨6,1,[.tmp 2],
 (.seq (rg [oq 1 (.box (tm 0)) [2]] [1])
 (.seq (rg [oq 3 (.addOff 1 (tm 1)) [5],ld 4 3,op 2 (ar .neq (tm 4) (zi 0))] [2])
 .ret))⟩
theorem good216:Good Tryz.prog (216,af216):=mkK Z0 Tryz.func216 (by kernel_rfl)
def af217:AFunc:=⟨6,1,[.tmp 2],
 (.seq (rg [oq 1 (.box (tm 0)) [2]] [1])
 (.seq (rg [oq 3 (.load true 6 (tm 1)) [5],op 4 (.call (.fn 208) [(tm 3)]),op 2 (.not (tm 4))] [2])
 .ret))⟩
theorem good217:Good Tryz.prog (217,af217):=mkK Z0 Tryz.func217 (by kernel_rfl)
def af218:AFunc:=⟨39,1,[.tmp 2],
 (.seq (rg [op 2 (.mv (tm 2))] [0])
 (.seq (.block 0 (.seq (rg [oq 6 (ar .eql (tm 0) (.lit (.int .u8 32))) [13],gf 7 6 (.mv (tm 0)) [],gf 8 6 (ar .eql (tm 7) (.lit (.int .u8 9))) [],op 10 (.pick (tm 6) (.lit (.bool true)) (tm 8)),gf 11 10 (.mv (tm 0)) [],gf 12 10 (ar .eql (tm 11) (.lit (.int .u8 10))) [],op 3 (.pick (tm 10) (.lit (.bool true)) (tm 12))] [0,3])
 (.cond (tm 3) (.seq (rg [op 2 (.mv (zi 1))] [2])
 .ret)
 (.seq (rg [oq 17 (ar .eql (tm 0) (.lit (.int .u8 95))) [24],gf 18 17 (.mv (tm 0)) [],gf 19 17 (ar .leq (.lit (.int .u8 97)) (tm 18)) [],gf 20 17 (.mv (tm 19)) [],gt 21 20 (.mv (tm 0)) [],gt 22 20 (ar .leq (tm 21) (.lit (.int .u8 122))) [],gf 23 17 (.pick (tm 20) (tm 22) (.lit (.bool false))) [],op 14 (.pick (tm 17) (.lit (.bool true)) (tm 23))] [0,14])
 (.cond (tm 14) (.seq (rg [op 2 (.mv (zi 2))] [2])
 .ret)
 (.seq (rg [oq 28 (ar .leq (.lit (.int .u8 65)) (tm 0)) [31],gt 29 28 (.mv (tm 0)) [],gt 30 28 (ar .leq (tm 29) (.lit (.int .u8 90))) [],op 25 (.pick (tm 28) (tm 30) (.lit (.bool false)))] [0,25])
 (.cond (tm 25) (.seq (rg [op 2 (.mv (zi 3))] [2])
 .ret)
 (.seq (rg [oq 35 (ar .leq (.lit (.int .u8 48)) (tm 0)) [38],gt 36 35 (.mv (tm 0)) [],gt 37 35 (ar .leq (tm 36) (.lit (.int .u8 57))) [],op 32 (.pick (tm 35) (tm 37) (.lit (.bool false)))] [32])
 (.cond (tm 32) (.seq (rg [op 2 (.mv (zi 4))] [2])
 .ret)
 .skip)))))))))
 (.seq (rg [op 2 (.mv (zi 0))] [2])
 .ret)))⟩
theorem good218:Good Tryz.prog (218,af218):=mkK Z0 Tryz.func218 (by kernel_rfl)
def lp219_0:ACode:=
 (.seq (rg [op 8 (ar .lss (tm 7) (tm 6))] [1,5,6,7,8])
 (.seq (.cond (tm 8) .skip
 (.exit 0))
 (.seq (.block 1 (.seq (rg [oq 9 (.indexAddrS 1 (tm 5) (tm 7)) [10],ld 3 9] [1,3,5,6,7])
 (rg [om (.mapUpdate 2 (tm 1) (tm 3) (zi 1)) [12]] [1,5,6,7])))
 (rg [oq 7 (ar .add (tm 7) (zi 1)) [13]] [1,5,6,7]))))
def af219:AFunc:=⟨15,0,[.tmp 0],
 (.seq (rg [op 0 (.mv (tm 0))] [])
 (.seq (rg [oq 1 (.mkMap) [4]] [1])
 (.seq (.seq (rg [op 5 (.call (.fn 222) [(.lit (.str [102,117,110,32,108,101,116,32,114,101,99,32,105,110,32,105,102,32,116,104,101,110,32,101,108,115,101,32,109,97,116,99,104,32,100,111,32,104,97,110,100,108,101,32,115,104,97,108,108,111,119,32,110,97,109,101,100,32,109,97,115,107,32,117,115,105,110,103,32,99,108,111,115,101,32,114,101,115,117,109,101,32,100,114,111,112,32,114,101,116,117,114,110,32,116,114,117,101,32,102,97,108,115,101,32,100,97,116,97,32,101,102,102,101,99,116,32,111,110,99,101,32,100,101,102,32,109,97,105,110]))]),op 6 (.len false (tm 5)),op 7 (.mv (zi 0))] [1,5,6,7])
 (.block 0 (.loop lp219_0)))
 (.seq (rg [oq 0 (.mv (tm 1)) [14]] [0])
 .ret))))⟩
theorem good219:Good Tryz.prog (219,af219):=mkK Z0 Tryz.func219 (by kernel_rfl)
def lp220_0:ACode:=
 (.seq (rg [op 9 (ar .lss (tm 8) (tm 7))] [0,1,7,8,9])
 (.seq (.cond (tm 9) .skip
 (.exit 0))
 (.seq (.block 1 (.seq (rg [oq 5 (.mv (tm 8)) [10]] [0,1,5,7,8])
 (.seq (rg [oq 14 (.indexAddrS 9 (tm 0) (tm 5)) [16],op 15 (.load true 9 (tm 14)),op 16 (.call (.val (tm 1)) [(tm 15)])] [0,1,5,7,8,16])
 (.cond (tm 16) (.seq (rg [oq 4 (.mv (tm 5)) [17]] [4])
 .ret)
 .skip))))
 (rg [oq 8 (ar .add (tm 8) (zi 1)) [18]] [0,1,7,8]))))
def af220:AFunc:=⟨19,2,[.tmp 4],
 (.seq (rg [op 4 (.mv (tm 4))] [0,1])
 (.seq (.seq (rg [oq 7 (.len false (tm 0)) [8],op 8 (.mv (zi 0))] [0,1,7,8])
 (.block 0 (.loop lp220_0)))
 (.seq (rg [op 4 (.mv (zi (-1)))] [4])
 .ret)))⟩
theorem good220:Good Tryz.prog (220,af220):=mkK Z0 Tryz.func220 (by kernel_rfl)
def lp221_0:ACode:=
 (.seq (rg [op 9 (ar .lss (tm 8) (tm 7))] [0,1,7,8,9])
 (.seq (.cond (tm 9) .skip
 (.exit 0))
 (.seq (.block 1 (.seq (rg [oq 5 (.mv (tm 8)) [10]] [0,1,5,7,8])
 (.seq (rg [oq 14 (.indexAddrS 2 (tm 0) (tm 5)) [16],op 15 (.load true 2 (tm 14)),op 16 (.call (.val (tm 1)) [(tm 15)])] [0,1,5,7,8,16])
 (.cond (tm 16) (.seq (rg [oq 4 (.mv (tm 5)) [17]] [4])
 .ret)
 .skip))))
 (rg [oq 8 (ar .add (tm 8) (zi 1)) [18]] [0,1,7,8]))))
def af221:AFunc:=⟨19,2,[.tmp 4],
 (.seq (rg [op 4 (.mv (tm 4))] [0,1])
 (.seq (.seq (rg [oq 7 (.len false (tm 0)) [8],op 8 (.mv (zi 0))] [0,1,7,8])
 (.block 0 (.loop lp221_0)))
 (.seq (rg [op 4 (.mv (zi (-1)))] [4])
 .ret)))⟩
theorem good221:Good Tryz.prog (221,af221):=mkK Z0 Tryz.func221 (by kernel_rfl)
noncomputable def tabL:List (FuncId × AFunc):=[(8,af8),(14,af14),(15,af15),(16,af16),(17,af17),(18,af18),(19,af19),(20,af20),(22,af22),(23,af23),(24,af24),(26,af26),(29,af29),(30,af30),(31,af31),(32,af32),(34,af34),(35,af35),(36,af36),(38,af38),(40,af40),(42,af42),(43,af43),(46,af46),(47,af47),(48,af48),(49,af49),(50,af50),(51,af51),(52,af52),(53,af53),(55,af55),(56,af56),(57,af57),(58,af58),(59,af59),(60,af60),(61,af61),(62,af62),(63,af63),(64,af64),(65,af65),(66,af66),(67,af67),(68,af68),(69,af69),(70,af70),(71,af71),(72,af72),(73,af73),(74,af74),(75,af75),(76,af76),(77,af77),(78,af78),(79,af79),(80,af80),(81,af81),(82,af82),(84,af84),(85,af85),(86,af86),(87,af87),(88,af88),(89,af89),(90,af90),(92,af92),(93,af93),(94,af94),(95,af95),(96,af96),(98,af98),(99,af99),(100,af100),(102,af102),(103,af103),(104,af104),(108,af108),(110,af110),(111,af111),(112,af112),(113,af113),(114,af114),(115,af115),(116,af116),(117,af117),(118,af118),(119,af119),(120,af120),(121,af121),(122,af122),(123,af123),(124,af124),(125,af125),(127,af127),(128,af128),(129,af129),(130,af130),(131,af131),(132,af132),(133,af133),(134,af134),(135,af135),(136,af136),(137,af137),(138,af138),(139,af139),(140,af140),(141,af141),(142,af142),(143,af143),(144,af144),(145,af145),(147,af147),(150,af150),(152,af152),(153,af153),(154,af154),(155,af155),(156,af156),(157,af157),(161,af161),(162,af162),(163,af163),(164,af164),(165,af165),(166,af166),(167,af167),(168,af168),(169,af169),(170,af170),(172,af172),(173,af173),(174,af174),(175,af175),(176,af176),(177,af177),(178,af178),(179,af179),(180,af180),(181,af181),(182,af182),(183,af183),(184,af184),(185,af185),(186,af186),(187,af187),(188,af188),(189,af189),(191,af191),(192,af192),(195,af195),(197,af197),(198,af198),(199,af199),(200,af200),(201,af201),(203,af203),(204,af204),(205,af205),(206,af206),(207,af207),(208,af208),(209,af209),(210,af210),(213,af213),(214,af214),(215,af215),(216,af216),(217,af217),(218,af218),(219,af219),(220,af220),(221,af221)]
noncomputable def tabT:FuncId→Option AFunc:=findL tabL
theorem tabGood: ∀x ∈ tabL,Good Tryz.prog x:=
 gc good8 (gc good14 (gc good15 (gc good16 (gc good17 (gc good18 (gc good19 (gc good20 (gc good22 (gc good23 (gc good24 (gc good26 (gc good29 (gc good30 (gc good31 (gc good32 (gc good34 (gc good35 (gc good36 (gc good38 (gc good40 (gc good42 (gc good43 (gc good46 (gc good47 (gc good48 (gc good49 (gc good50 (gc good51 (gc good52 (gc good53 (gc good55 (gc good56 (gc good57 (gc good58 (gc good59 (gc good60 (gc good61 (gc good62 (gc good63 (gc good64 (gc good65 (gc good66 (gc good67 (gc good68 (gc good69 (gc good70 (gc good71 (gc good72 (gc good73 (gc good74 (gc good75 (gc good76 (gc good77 (gc good78 (gc good79 (gc good80 (gc good81 (gc good82 (gc good84 (gc good85 (gc good86 (gc good87 (gc good88 (gc good89 (gc good90 (gc good92 (gc good93 (gc good94 (gc good95 (gc good96 (gc good98 (gc good99 (gc good100 (gc good102 (gc good103 (gc good104 (gc good108 (gc good110 (gc good111 (gc good112 (gc good113 (gc good114 (gc good115 (gc good116 (gc good117 (gc good118 (gc good119 (gc good120 (gc good121 (gc good122 (gc good123 (gc good124 (gc good125 (gc good127 (gc good128 (gc good129 (gc good130 (gc good131 (gc good132 (gc good133 (gc good134 (gc good135 (gc good136 (gc good137 (gc good138 (gc good139 (gc good140 (gc good141 (gc good142 (gc good143 (gc good144 (gc good145 (gc good147 (gc good150 (gc good152 (gc good153 (gc good154 (gc good155 (gc good156 (gc good157 (gc good161 (gc good162 (gc good163 (gc good164 (gc good165 (gc good166 (gc good167 (gc good168 (gc good169 (gc good170 (gc good172 (gc good173 (gc good174 (gc good175 (gc good176 (gc good177 (gc good178 (gc good179 (gc good180 (gc good181 (gc good182 (gc good183 (gc good184 (gc good185 (gc good186 (gc good187 (gc good188 (gc good189 (gc good191 (gc good192 (gc good195 (gc good197 (gc good198 (gc good199 (gc good200 (gc good201 (gc good203 (gc good204 (gc good205 (gc good206 (gc good207 (gc good208 (gc good209 (gc good210 (gc good213 (gc good214 (gc good215 (gc good216 (gc good217 (gc good218 (gc good219 (gc good220 (gc good221 (fun _ h=>nomatch h))))))))))))))))))))))))))))))))))))))))))))))))))))))))))))))))))))))))))))))))))))))))))))))))))))))))))))))))))))))))))))))))))))))))))))))))))))))))))))))))))))))))))))))
theorem tabR:TabR Tryz.prog tabT:=fun f af h=>findL_good tabL tabGood f af h
theorem tab8:tabT 8=some af8:=rfl
theorem tab20:tabT 20=some af20:=rfl
theorem tab23:tabT 23=some af23:=rfl
theorem tab26:tabT 26=some af26:=rfl
theorem tab29:tabT 29=some af29:=rfl
theorem tab31:tabT 31=some af31:=rfl
theorem tab34:tabT 34=some af34:=rfl
theorem tab35:tabT 35=some af35:=rfl
theorem tab42:tabT 42=some af42:=rfl
theorem tab43:tabT 43=some af43:=rfl
theorem tab52:tabT 52=some af52:=rfl
theorem tab55:tabT 55=some af55:=rfl
theorem tab56:tabT 56=some af56:=rfl
theorem tab58:tabT 58=some af58:=rfl
theorem tab59:tabT 59=some af59:=rfl
theorem tab60:tabT 60=some af60:=rfl
theorem tab64:tabT 64=some af64:=rfl
theorem tab65:tabT 65=some af65:=rfl
theorem tab66:tabT 66=some af66:=rfl
theorem tab67:tabT 67=some af67:=rfl
theorem tab71:tabT 71=some af71:=rfl
theorem tab72:tabT 72=some af72:=rfl
theorem tab73:tabT 73=some af73:=rfl
theorem tab79:tabT 79=some af79:=rfl
theorem tab80:tabT 80=some af80:=rfl
theorem tab81:tabT 81=some af81:=rfl
theorem tab82:tabT 82=some af82:=rfl
theorem tab84:tabT 84=some af84:=rfl
theorem tab85:tabT 85=some af85:=rfl
theorem tab86:tabT 86=some af86:=rfl
theorem tab87:tabT 87=some af87:=rfl
theorem tab89:tabT 89=some af89:=rfl
theorem tab92:tabT 92=some af92:=rfl
theorem tab93:tabT 93=some af93:=rfl
theorem tab95:tabT 95=some af95:=rfl
theorem tab99:tabT 99=some af99:=rfl
theorem tab102:tabT 102=some af102:=rfl
theorem tab103:tabT 103=some af103:=rfl
theorem tab104:tabT 104=some af104:=rfl
theorem tab110:tabT 110=some af110:=rfl
theorem tab111:tabT 111=some af111:=rfl
theorem tab112:tabT 112=some af112:=rfl
theorem tab113:tabT 113=some af113:=rfl
theorem tab114:tabT 114=some af114:=rfl
theorem tab116:tabT 116=some af116:=rfl
theorem tab117:tabT 117=some af117:=rfl
theorem tab120:tabT 120=some af120:=rfl
theorem tab121:tabT 121=some af121:=rfl
theorem tab122:tabT 122=some af122:=rfl
theorem tab123:tabT 123=some af123:=rfl
theorem tab124:tabT 124=some af124:=rfl
theorem tab125:tabT 125=some af125:=rfl
theorem tab129:tabT 129=some af129:=rfl
theorem tab130:tabT 130=some af130:=rfl
theorem tab131:tabT 131=some af131:=rfl
theorem tab132:tabT 132=some af132:=rfl
theorem tab133:tabT 133=some af133:=rfl
theorem tab134:tabT 134=some af134:=rfl
theorem tab135:tabT 135=some af135:=rfl
theorem tab136:tabT 136=some af136:=rfl
theorem tab137:tabT 137=some af137:=rfl
theorem tab138:tabT 138=some af138:=rfl
theorem tab139:tabT 139=some af139:=rfl
theorem tab140:tabT 140=some af140:=rfl
theorem tab141:tabT 141=some af141:=rfl
theorem tab142:tabT 142=some af142:=rfl
theorem tab143:tabT 143=some af143:=rfl
theorem tab152:tabT 152=some af152:=rfl
theorem tab153:tabT 153=some af153:=rfl
theorem tab154:tabT 154=some af154:=rfl
theorem tab155:tabT 155=some af155:=rfl
theorem tab156:tabT 156=some af156:=rfl
theorem tab157:tabT 157=some af157:=rfl
theorem tab161:tabT 161=some af161:=rfl
theorem tab162:tabT 162=some af162:=rfl
theorem tab163:tabT 163=some af163:=rfl
theorem tab164:tabT 164=some af164:=rfl
theorem tab165:tabT 165=some af165:=rfl
theorem tab167:tabT 167=some af167:=rfl
theorem tab168:tabT 168=some af168:=rfl
theorem tab169:tabT 169=some af169:=rfl
theorem tab172:tabT 172=some af172:=rfl
theorem tab173:tabT 173=some af173:=rfl
theorem tab174:tabT 174=some af174:=rfl
theorem tab175:tabT 175=some af175:=rfl
theorem tab176:tabT 176=some af176:=rfl
theorem tab177:tabT 177=some af177:=rfl
theorem tab178:tabT 178=some af178:=rfl
theorem tab179:tabT 179=some af179:=rfl
theorem tab180:tabT 180=some af180:=rfl
theorem tab181:tabT 181=some af181:=rfl
theorem tab182:tabT 182=some af182:=rfl
theorem tab183:tabT 183=some af183:=rfl
theorem tab184:tabT 184=some af184:=rfl
theorem tab185:tabT 185=some af185:=rfl
theorem tab195:tabT 195=some af195:=rfl
theorem tab197:tabT 197=some af197:=rfl
theorem tab198:tabT 198=some af198:=rfl
theorem tab199:tabT 199=some af199:=rfl
theorem tab200:tabT 200=some af200:=rfl
theorem tab201:tabT 201=some af201:=rfl
theorem tab203:tabT 203=some af203:=rfl
theorem tab204:tabT 204=some af204:=rfl
theorem tab205:tabT 205=some af205:=rfl
theorem tab206:tabT 206=some af206:=rfl
theorem tab207:tabT 207=some af207:=rfl
theorem tab208:tabT 208=some af208:=rfl
theorem tab209:tabT 209=some af209:=rfl
theorem tab210:tabT 210=some af210:=rfl
theorem tab213:tabT 213=some af213:=rfl
theorem tab214:tabT 214=some af214:=rfl
theorem tab215:tabT 215=some af215:=rfl
theorem tab216:tabT 216=some af216:=rfl
theorem tab217:tabT 217=some af217:=rfl
theorem tab218:tabT 218=some af218:=rfl
theorem tab219:tabT 219=some af219:=rfl
theorem tab220:tabT 220=some af220:=rfl
theorem tab221:tabT 221=some af221:=rfl
theorem catch_idle (p:Addr) (w:World):
 CallsD Tryz.prog 109 #[.pointer (some p)] .returning w fun e u' w'=>e= .returned (.tuple #[])∧u'= .returning∧w'=w:=by
 refine callsD_of_wpS Tryz.func109 rfl fun c₀ cs hu=> ?_
 apply wpS_seq
 apply wpS_region
 simp [wpOpsS,go_sem,recoverD,hu,Tryz.ntmps109,Exit.thenS]
 apply wpS_seq
 apply wpS_region
 simp [wpOpsS,go_sem,Exit.thenS,Act.put,Act.eval,Array.replicate]
 refine wpS_cond (t:=false) (by simp [Act.eval,Array.replicate]) ?_
 simp only [Bool.false_eq_true,if_false]
 refine wpS_of_wp (wp_skip ?_)
 cases c₀
 simp_all [bodyPostS,results,Tryz.results109]
theorem run_assert (v:Value) (w:World): (Instr.typeAssert (.iface 154 v) 20 154 true).run Tryz.prog w= .ok (.tuple #[v, .bool true]) w:=by kernel_rfl
theorem catch_panicking (p:Addr) (x:Value) (n:Int) (older:List PanicEntry) (w:World) (hc:w.cell? p=some x) (hz:w.frozen? p=false):
 CallsD Tryz.prog 109 #[.pointer (some p)] (.panicking ({v:= .iface 154 (.agg #[.int .i64 n]),recovered:=false} ::older)) w fun e u' w'=>
  e= .returned (.tuple #[])∧u'= .panicking ({v:= .iface 154 (.agg #[.int .i64 n]),recovered:=true} ::older)∧
  ∃te,w'=(w.alloc (.cells #[.int .i64 n] te)).setCell p (.int .i64 n):=by
 refine callsD_of_wpS Tryz.func109 rfl fun c₀ cs hu=> ?_
 apply wpS_seq
 apply wpS_region
 simp [wpOpsS,go_sem,recoverD,hu,Tryz.ntmps109,Exit.thenS]
 apply wpS_seq
 apply wpS_region
 simp [wpOpsS,go_sem,Exit.thenS,Act.put,Act.eval,Array.replicate]
 refine wpS_cond (t:=true) (by simp [Act.eval,Array.replicate]) ?_
 simp only [if_true]
 apply wpS_seq
 apply wpS_region
 simp [wpOpsS,go_sem,run_assert,Exit.thenS,Act.put,Act.eval,Array.replicate]
 apply wpS_seq
 apply wpS_seq
 apply wpS_region
 simp [wpOpsS,go_sem,Exit.thenS,Act.put,Act.eval]
 refine wpS_cond (t:=false) (by simp [Act.eval]) ?_
 simp only [Bool.false_eq_true,if_false]
 refine wpS_of_wp (wp_skip ?_)
 simp only [Exit.thenS]
 apply wpS_region
 have hp:p.block<w.heap.size:=World.block_lt_of_cell? _ _ hc
 have hc': ∀o,(w.alloc o).cell? p=some x:=fun o=>(World.cell?_alloc_lt _ _ _ hp).trans hc
 have hz': ∀o,(w.alloc o).frozen? p=false:=fun o=>(World.frozen?_alloc_old _ _ _ (Nat.ne_of_lt hp)).trans hz
 simp [wpOpsS,go_sem,Act.put,Act.eval,hc',hz',bodyPostS,results,Tryz.results109]
 exact ⟨_,rfl⟩
theorem catchR {glob:Gl} (hg: ∀f ty,glob.catches f=some ty→f=54∧ty=154):CatchR Tryz.prog glob:=by
 intro f ty hf
 obtain ⟨rfl,rfl⟩:=hg f ty hf
 refine ⟨⟨_,Tryz.func54,by kernel_rfl,by kernel_rfl⟩,34,fun g fa ca W Q hreal hcall hQ=> ?_⟩
 have hmf: ∀ (fn:Fn) (first cap:Array Value) (w:World),(Instr.makeFunc fn first cap).run Tryz.prog w= .ok (.func fn first cap) w:=fun _ _ _ _=>rfl
 refine calls_of_wp_defers Tryz.func54 rfl ?_
 apply wp_seq
 apply wp_region
 simp [wpOps,go_sem,Exit.then,Act.put,Act.eval,Tryz.ntmps54]
 left
 apply wp_seq
 apply wp_region
 simp [wpOps,go_sem,hmf,Exit.then,Act.put,Act.eval]
 left;left
 apply wp_seq
 apply wp_region
 simp [wpOps,go_sem,Exit.then,Act.put,Act.eval]
 left
 left
 obtain ⟨fn,hfn,hbn,hnn⟩:=hreal
 rw [callFunc_run hfn hbn hnn]
 refine Calls.mono (R:=Q) hcall fun en w1 hq=> ?_
 obtain ⟨⟨y,t,hcell⟩,hen⟩:=hQ en w1 hq
 have hc1:w1.cell? ⟨W.heap.size,0,none⟩=some y:=by simp [World.cell?,hcell]
 have hz1:w1.frozen? ⟨W.heap.size,0,none⟩=false:=by simp [World.frozen?,hcell]
 have hset: ∀ (w:World) (v:Value),w.heap[W.heap.size]? =some (.cells #[y] t)→w.setCell ⟨W.heap.size,0,none⟩ v=w.setRow W.heap.size #[v]:=fun w v h=>by
  have hlt:=(Array.getElem?_eq_some_iff.1 h).1
  have hv:=(Array.getElem?_eq_some_iff.1 h).2
  unfold World.setCell World.setRow
  congr 1
  apply Array.ext_getElem?
  intro i
  simp only [Array.getElem?_modify]
  split
  ·rename_i hi
   subst hi
   rw [h]
   simp
  ·rfl
 rcases hen with ⟨v,rfl⟩ | ⟨n,rfl⟩
 ·simp [Act.put]
  apply wp_seq
  apply wp_region
  simp [wpOps,go_sem,Exit.then,Act.put,Act.eval,hc1,hz1]
  left
  refine wp_ret ?_
  simp only [bodyPostD]
  refine leaves_cons (f:=109) (args:= #[.pointer (some ⟨W.heap.size,0,none⟩)]) (by simp) (by simp [go_sem]) ?_
  refine (catch_idle ⟨W.heap.size,0,none⟩ _).mono ?_
  rintro e u' w'' ⟨rfl,rfl,rfl⟩
  have hc2: (w1.setCell ⟨W.heap.size,0,none⟩ (.int .i64 0)).cell? ⟨W.heap.size,0,none⟩=some (.int .i64 0):=by
   simp only [World.cell?,World.setCell,Array.getElem?_modify,if_true,hcell]
   simp
  exact ⟨.int .i64 0,by simp [results,Tryz.results54,go_sem,hc2], .returned v,w1,hq,w1,0,rfl,⟨Nat.le_refl _,rfl,rfl,rfl,fun _ _=>rfl⟩,hset _ _ hcell, .inl ⟨⟨v,rfl⟩,rfl⟩⟩
 ·simp [Exit.then,bodyPostD]
  refine leaves_cons (f:=109) (args:= #[.pointer (some ⟨W.heap.size,0,none⟩)]) (by simp) (by simp [go_sem]) ?_
  refine (catch_panicking ⟨W.heap.size,0,none⟩ y n [] _ hc1 hz1).mono ?_
  rintro e u' w'' ⟨rfl,rfl,te,rfl⟩
  have hlt:W.heap.size<w1.heap.size:=(Array.getElem?_eq_some_iff.1 hcell).1
  have hcell2: (w1.alloc (.cells #[.int .i64 n] te)).heap[W.heap.size]? =some (.cells #[y] t):=by rw [heap_alloc_old _ _ hlt];exact hcell
  have hc2: ((w1.alloc (.cells #[.int .i64 n] te)).setCell ⟨W.heap.size,0,none⟩ (.int .i64 n)).cell? ⟨W.heap.size,0,none⟩=some (.int .i64 n):=by
   simp only [World.cell?,World.setCell,Array.getElem?_modify,if_true,hcell2]
   simp
  exact ⟨.int .i64 n,by simp [results,Tryz.results54,go_sem,hc2], .panicked [{v:= .iface 154 (.agg #[.int .i64 n]),recovered:=false}],w1,hq,w1.alloc (.cells #[.int .i64 n] te),n,rfl,
   ⟨by simp,rfl,rfl,rfl,fun b hb=>heap_alloc_old _ _ hb⟩,hset _ _ hcell2, .inr rfl⟩
end Go.AI
namespace Go.Proofs
open Go.Shelf
def Tryz.lays157_ren:Go.Shelf.Ren:=⟨fun|157=>222|229=>223|199=>224|261=>225|311=>226|312=>227|n=>n,fun|9=>9|31=>26|3=>3|5=>5|4=>4|119=>251|0=>0|40=>253|152=>254|21=>21|154=>256|51=>257|141=>259|196=>263|193=>260|198=>266|49=>264|194=>261|201=>269|226=>271|46=>229|227=>272|n=>n,fun|0=>1|6=>2|n=>n⟩
theorem Tryz.lays157:Go.Proofs.Lays.n157 Tryz.prog Tryz.lays157_ren:= {
 mixed:=by kernel_rfl
 f157:=Tryz.func222.trans (congrArg some (by kernel_rfl))
 f199:=Tryz.func224.trans (congrArg some (by kernel_rfl))
 f229:=Tryz.func223.trans (congrArg some (by kernel_rfl))
 f261:=Tryz.func225.trans (congrArg some (by kernel_rfl))
 f311:=Tryz.func226.trans (congrArg some (by kernel_rfl))
 f312:=Tryz.func227.trans (congrArg some (by kernel_rfl))
 t0:=Tryz.underlying0
 a0:=Tryz.isAgg0
 z0:=Tryz.sizeOf0
 v0:=Tryz.zeroValue0
 t3:=Tryz.underlying3
 a3:=Tryz.isAgg3
 z3:=Tryz.sizeOf3
 v3:=Tryz.zeroValue3
 t4:=Tryz.underlying4
 a4:=Tryz.isAgg4
 z4:=Tryz.sizeOf4
 v4:=Tryz.zeroValue4
 t5:=Tryz.underlying5
 a5:=Tryz.isAgg5
 z5:=Tryz.sizeOf5
 v5:=Tryz.zeroValue5
 t9:=Tryz.underlying9
 a9:=Tryz.isAgg9
 z9:=Tryz.sizeOf9
 v9:=Tryz.zeroValue9
 t21:=Tryz.underlying21
 a21:=Tryz.isAgg21
 z21:=Tryz.sizeOf21
 v21:=Tryz.zeroValue21
 t31:=Tryz.underlying26
 a31:=Tryz.isAgg26
 z31:=Tryz.sizeOf26
 v31:=Tryz.zeroValue26
 t40:=Tryz.underlying253
 a40:=Tryz.isAgg253
 z40:=Tryz.sizeOf253
 v40:=Tryz.zeroValue253
 t46:=Tryz.underlying229
 a46:=Tryz.isAgg229
 z46:=Tryz.sizeOf229
 v46:=Tryz.zeroValue229
 t49:=Tryz.underlying264
 a49:=Tryz.isAgg264
 z49:=Tryz.sizeOf264
 v49:=Tryz.zeroValue264
 t51:=Tryz.underlying257
 a51:=Tryz.isAgg257
 z51:=Tryz.sizeOf257
 v51:=Tryz.zeroValue257
 t119:=Tryz.underlying251
 a119:=Tryz.isAgg251
 z119:=Tryz.sizeOf251
 t141:=Tryz.underlying259
 a141:=Tryz.isAgg259
 z141:=Tryz.sizeOf259
 v141:=Tryz.zeroValue259
 t152:=Tryz.underlying254
 a152:=Tryz.isAgg254
 z152:=Tryz.sizeOf254
 v152:=Tryz.zeroValue254
 t154:=Tryz.underlying256
 a154:=Tryz.isAgg256
 z154:=Tryz.sizeOf256
 v154:=Tryz.zeroValue256
 t193:=Tryz.underlying260
 a193:=Tryz.isAgg260
 z193:=Tryz.sizeOf260
 v193:=Tryz.zeroValue260
 t194:=Tryz.underlying261
 a194:=Tryz.isAgg261
 z194:=Tryz.sizeOf261
 v194:=Tryz.zeroValue261
 t196:=Tryz.underlying263
 a196:=Tryz.isAgg263
 z196:=Tryz.sizeOf263
 v196:=Tryz.zeroValue263
 t198:=Tryz.underlying266
 a198:=Tryz.isAgg266
 z198:=Tryz.sizeOf266
 v198:=Tryz.zeroValue266
 t201:=Tryz.underlying269
 a201:=Tryz.isAgg269
 z201:=Tryz.sizeOf269
 v201:=Tryz.zeroValue269
 t226:=Tryz.underlying271
 a226:=Tryz.isAgg271
 z226:=Tryz.sizeOf271
 v226:=Tryz.zeroValue271
 t227:=Tryz.underlying272
 a227:=Tryz.isAgg272
 z227:=Tryz.sizeOf272
 v227:=Tryz.zeroValue272
 g0:=by kernel_rfl
 g6:=by kernel_rfl}
open Go.RowKit Go.Lib in
theorem Tryz.strings_Fields (s:ByteArray) (w:World) (hs:s.size<4294967281) (hascii: ∀ (j:Nat) b,s.data.toList[j]? =some b→b.toNat<128) (htab:Lib.TabIs Tryz.prog w "strings.asciiSpace" .u8 Lib.asciiSpaceTab):
 Calls Tryz.prog 222 #[.string s] w fun e w'=>
  e= .returned (.slice (some ⟨w.heap.size,0,none⟩) (Lib.fields s.data.toList).length (Lib.fields s.data.toList).length)∧w'=w.alloc (.cells ((Lib.fields s.data.toList).map fun l=>Value.string ⟨l.toArray⟩).toArray 9):=Any.strings_Fields Tryz.lays157 (by kernel_rfl) (by kernel_rfl) s w hs hascii htab
end Go.Proofs
namespace Go.AI
open Go Go.Proofs
abbrev Bs:=List UInt8
abbrev slD (l:List Bs):D:= .slice (l.map .str)
def sh (s t n m p q:Int) (a:Bool) (lo hi:Int):List D:=[.int .i64 s, .int .i64 t, .int .i64 n, .int .i64 m, .int .i64 p, .int .i64 q, .bool a, .int .i64 lo, .int .i64 hi]
def shapes:List D:=List.flatten [sh 1 0 0 0 0 0 false 0 0,sh 0 0 0 0 0 0 false (-999999999) 999999999,sh 0 0 0 0 0 0 false 0 1,sh 0 0 0 0 0 0 false 0 0,sh 0 0 1 0 1 0 false 0 0,sh 0 0 0 0 2 0 false 0 0,
 sh 0 0 1 0 2 0 false 0 0,sh 0 0 2 0 2 0 false 0 0,sh 0 0 0 0 3 0 false 0 0,sh 3 0 0 0 2 0 false 0 0,sh 2 0 0 0 0 4 false 0 0,sh 0 0 0 0 1 0 true 0 0,sh 1 0 0 0 1 0 false 0 0,sh 1 1 0 0 1 0 false 0 0,
 sh 2 0 0 0 1 0 true 0 1,sh 2 0 1 0 1 0 true 0 0,sh 2 0 0 0 1 0 false 0 0,sh 0 0 1 12 3 0 false 0 0,sh 1 0 0 0 1 0 false 0 0,sh 1 0 0 0 0 0 false 0 0]
def globT (g:Nat):Option (List D):=if g=0 then some shapes else if g=1 then some (Lib.asciiSpaceTab.map (.int .u8)) else none
def catT (f:FuncId):Option TypeId:=if f=54 then some 154 else none
structure IsG (G:Gl):Prop where
 g:G.g=globT
 nat:G.nat=fun _=>none
 cat:G.catches=catT
 post:PostOK G
theorem treeL_int (k:IntKind) (l:List Int):treeL (l.map (.int k))=true:=by
 induction l with
 |nil=>rfl
 |cons a r ih=>simp only [List.map_cons,treeL,ih,D.tree,Bool.and_self]
theorem IsG.tree {G:Gl} (h:IsG G):GlobT G:=by
 intro g cs hg
 rw [h.g] at hg
 simp only [globT] at hg
 split at hg
 ·cases hg;decide
 ·split at hg
  ·cases hg;exact treeL_int _ _
  ·cases hg
theorem IsG.natR {G:Gl} (h:IsG G):NatR Tryz.prog G:=by
 refine ⟨fun f g hf=> ?_,catchR fun f ty hf=> ?_⟩
 ·rw [h.nat] at hf;cases hf
 ·rw [h.cat] at hf
  unfold catT at hf
  split at hf
  ·cases hf;exact ⟨by assumption,rfl⟩
  ·cases hf
theorem mixed:Tryz.prog.follows .mixedOrders=true:=by kernel_rfl
theorem tab_of_glob {G:Gl} {W:World} {fx:Nat→Prop} (hG:GlobR (bare fx) W G) {name:String} {g:Nat} {k:IntKind} {zs:List Int} (hg:Tryz.prog.globalNamed name=some g) (hgl:G.g g=some (zs.map (.int k))):
 Lib.TabIs Tryz.prog W name k zs:=by
 obtain ⟨h1,c,ty,fz,hb,hs⟩:=hG g _ hgl
 unfold Lib.TabIs World.var?
 rw [hg]
 simp only [Option.bind_some,hb,Option.some.injEq]
 cases h1 with
 | @tptr _ _ _ f hf hc hr=>
  apply Array.ext
  ·rw [hs];simp
  ·intro i h1 h2
   have hi:i< (zs.map (D.int k)).length:=by rw [←hs];exact h1
   have hcell:=hc i hi
   have hzi:i<zs.length:=by simpa using hi
   have hrr:=hr i (.int k zs[i]) (by simp [hzi])
   have hfi:=hrr.int_inv
   rw [hfi] at hcell
   simp only [World.cell?,hb,Nat.zero_add] at hcell
   simp only [Array.getElem?_eq_getElem h1] at hcell
   have:=Option.some.inj hcell
   rw [this]
   simp
theorem toList_mk (s:ByteArray) (l:List UInt8) (h:l=s.data.toList):s=⟨l.toArray⟩:=by
 subst h;simp
theorem strs_R {fx':Nat→Prop} {w:World} {l:List Bs} {b:Nat} (hb:fx' b) (hc: ∀j,j<l.length→w.cell? ⟨b,j,none⟩=some (.string ⟨(l.getD j []).toArray⟩)):
 R (bare fx') w (slD l) (.slice (some ⟨b,0,none⟩) l.length l.length):=by
 refine .slice (sz:=1) (f:=fun i _=> .string ⟨(l.getD i []).toArray⟩) hb (by simp) (Nat.le_refl _) ?_ ?_ ?_
 ·intro i e he
  obtain ⟨x,hx,rfl⟩:=List.mem_map.1 (List.mem_of_getElem? he)
  rfl
 ·intro i j e d he hd
  have hi:i<l.length:=by have:=(List.getElem?_eq_some_iff.1 he).1;simpa using this
  obtain ⟨x,hx,rfl⟩:=List.mem_map.1 (List.mem_of_getElem? he)
  have hj:j=0:=by have:=(List.getElem?_eq_some_iff.1 hd).1;simp [D.cells] at this;omega
  subst hj
  simpa using hc i hi
 ·intro i j e d he hd
  have hi:i<l.length:=by have:=(List.getElem?_eq_some_iff.1 he).1;simpa using this
  have hx:e= .str l[i]:=by
   have:=(List.getElem?_eq_some_iff.1 he).2
   simpa using this.symm
  subst hx
  have hj:j=0:=by have:=(List.getElem?_eq_some_iff.1 hd).1;simp [D.cells] at this;omega
  subst hj
  simp only [D.cells,List.getElem?_cons_zero,Option.some.injEq] at hd
  subst hd
  have:l.getD i []=l[i]:=by simp [List.getD,hi]
  simp only [this]
  exact R.str (ρ:=bare fx') (W:=w) ⟨l[i].toArray⟩
theorem str_args {ρ:Ren} {W:World} {l:Bs} {vs:Array Value} (h:Rs ρ W [.str l] vs):vs= #[.string ⟨l.toArray⟩]:=by
 obtain ⟨v,rfl⟩: ∃v,vs= #[v]:=⟨vs.getD 0 undef,by
  apply Array.ext
  ·simp [h.1]
  ·intro i h1 h2
   have:i=0:=by simp at h2;omega
   subst this;simp [Array.getD,h1]⟩
 have:=h.2 0 _ rfl
 obtain ⟨s,hs,hl⟩:=(show R ρ W (.str l) v from this).str_inv
 rw [hs,toList_mk s l hl]
def asciiB (l:Bs):Bool:=l.all fun b=>decide (b.toNat<128)
def g222:List D→Option D
 | [.str l]=>if l.length<4294967281∧asciiB l=true then some (slD (Lib.fields l)) else none
 |_=>none
theorem treeL_strs (l:List Bs):treeL (l.map .str)=true:=by
 induction l with
 |nil=>rfl
 |cons a r ih=>simp only [List.map_cons,treeL,ih,D.tree,Bool.and_self]
theorem pure222 {G:Gl} (hGl:IsG G) (args:List D) (r:D) (_ht:treeL args=true) (h:g222 args=some r):r.tree=true∧PureCall Tryz.prog G 222 args r:=by
 clear _ht
 unfold g222 at h
 split at h
 ·rename_i l
  split at h
  ·rename_i hh
   cases h
   refine ⟨by simp [D.tree,treeL_strs],fun fx W vs hfx hG ha=> ?_⟩
   rw [str_args ha]
   refine (Tryz.strings_Fields ⟨l.toArray⟩ W (by simpa [ByteArray.size] using hh.1) (fun j b hb=> ?_) (tab_of_glob (g:=1) hG (by kernel_rfl) (by rw [hGl.g];rfl))).mono ?_
   ·have hm:b ∈ l:=by
     have:=List.mem_of_getElem? hb
     simpa using this
    have:=List.all_eq_true.1 hh.2 b hm
    simpa using this
   ·rintro e w ⟨rfl,rfl⟩
    have hb0:=(RowKit.Below.refl W.heap.size W).alloc (Nat.le_refl _) (.cells ((Lib.fields (⟨l.toArray⟩:ByteArray).data.toList).map fun l=>Value.string ⟨l.toArray⟩).toArray 9)
    refine ⟨fun b=>fx b∨b=W.heap.size,_,rfl,fun b hb=> .inl hb,fun b hb=> ?_,fun b hb=>hb0.block b hb,hb0.size,rfl,rfl,rfl, ?_⟩
    ·rcases hb with hb|rfl
     ·exact .inl hb
     ·refine .inr ⟨Nat.le_refl _, ?_⟩
      show W.heap.size< (W.heap.push _).size
      simp
    ·refine strs_R (.inr rfl) fun j hj=> ?_
     have hj':j< (Lib.fields l).length:=hj
     rw [World.cell?_alloc_new]
     simp [List.getD,hj']
  ·cases h
 ·cases h
theorem real222:Real Tryz.prog 222:=⟨_,Tryz.func222,by kernel_rfl,by kernel_rfl⟩
end Go.AI
namespace Go.AI
open Go Go.Proofs
set_option maxRecDepth 100000
def qC (f:FuncId):Bool:=[117,128,36,38,14,40,20,22,26].contains f
def GC:Gl:= {g:=globT,nat:=fun _=>none,catches:=catT,query:=qC,post:=postC qC}
theorem isGC:IsG GC:=⟨rfl,rfl,rfl,postC_ok rfl⟩
def X0:ExtL:=[(222,g222)]
theorem extR0:ExtR Tryz.prog GC (extOf X0):=ExtR.cons (L:=[]) (fun f g h=>by cases h) real222 (pure222 isGC)
end Go.AI
namespace Go.AI
open Go Go.Proofs
theorem ExtR.over {L L':ExtL} (hL:ExtR Tryz.prog GC (extOf L)) (hL':ExtR Tryz.prog GC (extOf L')) {f:FuncId} {g:List D→Option D} (hf:Real Tryz.prog f)
 (h: ∀args r,g args=some r→Comp tabT (extOf L) GC f args r):ExtR Tryz.prog GC (extOf ((f,g)::L')):=by
 refine hL'.cons hf fun args r ht hr=> ?_
 obtain ⟨k,d,hd,rfl⟩:=h args r hr
 obtain ⟨_,h1,h2⟩:=pure_of_eval hL tabR isGC.tree isGC.natR isGC.post mixed hd
 exact ⟨D.weak_tree d h1,fun fx W vs hfx hG ha=>(h2 fx W vs hfx hG ha).mono fun en w hw=>hw.weak⟩
end Go.AI
namespace Go.AI
open Go Go.Proofs
set_option maxRecDepth 100000
abbrev j (n:Int):D:= .int .i64 n
abbrev o:D:= .int .i64 0
abbrev n:D:= .slice []
abbrev e:D:= .str []
def memo:List (List D × D)→List D→Option D
 | [],_=>none
 | (a,r)::t,args=>if eqbL a args then some r else memo t args
noncomputable def isAt (X:Ext) (k:Nat) (f:FuncId) (p:List D × D):Bool:=match fnTree tabT X GC k f p.1 with
 |some d=>d.weak.eqb p.2
 |none=>false
theorem isAt_comp {X:Ext} {k:Nat} {f:FuncId} {p:List D × D} (h:isAt X k f p=true):Comp tabT X GC f p.1 p.2:=by
 unfold isAt at h
 split at h
 ·rename_i d hd;exact ⟨k,d,hd,D.eqb_eq _ _ h⟩
 ·cases h
theorem memo_comp {X:Ext} {f:FuncId} : ∀ {l:List (List D × D)},(∀p ∈ l,Comp tabT X GC f p.1 p.2)→ ∀args r,memo l args=some r→Comp tabT X GC f args r
 | [],_,args,r,h=>by cases h
 | (a,x)::t,hl,args,r,h=>by
  simp only [memo] at h
  split at h
  ·rename_i heq
   cases h
   rw [←eqbL_eq a args heq]
   exact hl _ List.mem_cons_self
  ·exact memo_comp (fun p hp=>hl p (List.mem_cons_of_mem _ hp)) args r h
theorem all_comp {X:Ext} {f:FuncId} {k:Nat} {l:List (List D × D)} (h:l.all (isAt X k f)=true): ∀p ∈ l,Comp tabT X GC f p.1 p.2:=fun p hp=>isAt_comp (List.all_eq_true.1 h p hp)
def exData:D:=(.slice [(.agg [(.str [76,105,115,116]),(.slice [(.str [97])]),(.slice [(.agg [(.str [78,105,108]),(.slice [])]),(.agg [(.str [67,111,110,115]),(.slice [(.agg [(.int .i64 1),(.int .i64 0),(.str [97]),(.slice []),(.slice []),(.int .i64 0)]),(.agg [(.int .i64 6),(.int .i64 0),(.str [76,105,115,116]),(.slice [(.agg [(.int .i64 1),(.int .i64 0),(.str [97]),(.slice []),(.slice []),(.int .i64 0)])]),(.slice []),(.int .i64 0)])])])])]),(.agg [(.str [86,111,105,100]),(.slice []),(.slice [])]),(.agg [(.str [84,114,101,101]),(.slice []),(.slice [(.agg [(.str [76,101,97,102]),(.slice [])]),(.agg [(.str [78,111,100,101]),(.slice [(.agg [(.int .i64 6),(.int .i64 0),(.str [84,114,101,101]),(.slice []),(.slice []),(.int .i64 0)]),(.agg [(.int .i64 2),(.int .i64 0),(.str []),(.slice []),(.slice []),(.int .i64 0)]),(.agg [(.int .i64 6),(.int .i64 0),(.str [84,114,101,101]),(.slice []),(.slice []),(.int .i64 0)])])])])]),(.agg [(.str [76,111,111,112]),(.slice []),(.slice [(.agg [(.str [77,111,114,101]),(.slice [(.agg [(.int .i64 6),(.int .i64 0),(.str [76,111,111,112]),(.slice []),(.slice []),(.int .i64 0)])])])])])])
def exEff:D:=(.slice [(.agg [(.str [83,116,97,116,101]),(.slice [(.agg [(.str [103,101,116]),(.int .i64 4),(.int .i64 0),(.str []),(.slice []),(.slice []),(.int .i64 0),(.int .i64 2),(.int .i64 0),(.str []),(.slice []),(.slice []),(.int .i64 0),(.bool false)]),(.agg [(.str [112,117,116]),(.int .i64 2),(.int .i64 0),(.str []),(.slice []),(.slice []),(.int .i64 0),(.int .i64 4),(.int .i64 0),(.str []),(.slice []),(.slice []),(.int .i64 0),(.bool false)])])]),(.agg [(.str [69,120,99]),(.slice [(.agg [(.str [114,97,105,115,101]),(.int .i64 4),(.int .i64 0),(.str []),(.slice []),(.slice []),(.int .i64 0),(.int .i64 6),(.int .i64 0),(.str [86,111,105,100]),(.slice []),(.slice []),(.int .i64 0),(.bool true)])])]),(.agg [(.str [73,79]),(.slice [])])])
def m14:List (List D × D):=[
 ([(.agg [exData,exEff,n,(j 3),o,e,e,n,n,n])],(j 5)),
 ([(.agg [exData,(.slice [(.agg [(.str [83,116,97,116,101]),(.slice [(.agg [(.str [103,101,116]),(j 4),o,e,n,n,o,(j 2),o,e,n,n,o,(.bool false)]),(.agg [(.str [112,117,116]),(j 2),o,e,n,n,o,(j 4),o,e,n,n,o,(.bool false)])])]),(.agg [(.str [69,120,99]),(.slice [(.agg [(.str [114,97,105,115,101]),(j 4),o,e,n,n,o,(j 6),o,(.str [86,111,105,100]),n,n,o,(.bool true)])])])]),n,(j 3),o,e,e,n,n,n])],o)]
def m15:List (List D × D):=[
 ([(.agg [exData,(.slice [(.agg [(.str [83,116,97,116,101]),(.slice [(.agg [(.str [103,101,116]),(j 4),o,e,n,n,o,(j 2),o,e,n,n,o,(.bool false)]),(.agg [(.str [112,117,116]),(j 2),o,e,n,n,o,(j 4),o,e,n,n,o,(.bool false)])])]),(.agg [(.str [69,120,99]),(.slice [(.agg [(.str [114,97,105,115,101]),(j 4),o,e,n,n,o,(j 6),o,(.str [86,111,105,100]),n,n,o,(.bool true)])])])]),n,(j 3),o,e,e,n,n,n]),(.str [67,111,110,115]),(.slice [(.agg [(j 3),o,e,n,n,o])])],(.tuple [(.slice [(.agg [(j 3),o,e,n,n,o]),(.agg [(j 6),o,(.str [76,105,115,116]),(.slice [(.agg [(j 3),o,e,n,n,o])]),n,o])]),o]))]
def m20:List (List D × D):=[
 ([(.agg [exData,(.slice [(.agg [(.str [83,116,97,116,101]),(.slice [(.agg [(.str [103,101,116]),(j 4),o,e,n,n,o,(j 2),o,e,n,n,o,(.bool false)]),(.agg [(.str [112,117,116]),(j 2),o,e,n,n,o,(j 4),o,e,n,n,o,(.bool false)])])]),(.agg [(.str [69,120,99]),(.slice [(.agg [(.str [114,97,105,115,101]),(j 4),o,e,n,n,o,(j 6),o,(.str [86,111,105,100]),n,n,o,(.bool true)])])])]),n,(j 3),o,e,e,n,n,n]),(.agg [(j 6),o,(.str [76,105,115,116]),(.slice [(.agg [(j 6),o,(.str [86,111,105,100]),n,n,o])]),n,o])],(.tuple [(.bool true),o])),
 ([(.agg [exData,(.slice [(.agg [(.str [83,116,97,116,101]),(.slice [(.agg [(.str [103,101,116]),(j 4),o,e,n,n,o,(j 2),o,e,n,n,o,(.bool false)]),(.agg [(.str [112,117,116]),(j 2),o,e,n,n,o,(j 4),o,e,n,n,o,(.bool false)])])]),(.agg [(.str [69,120,99]),(.slice [(.agg [(.str [114,97,105,115,101]),(j 4),o,e,n,n,o,(j 6),o,(.str [86,111,105,100]),n,n,o,(.bool true)])])])]),n,(j 3),o,e,e,n,n,n]),(.agg [(j 6),o,(.str [86,111,105,100]),n,n,o])],(.tuple [(.bool false),o]))]
def m22:List (List D × D):=[
 ([(.agg [exData,(.slice [(.agg [(.str [83,116,97,116,101]),(.slice [(.agg [(.str [103,101,116]),(j 4),o,e,n,n,o,(j 2),o,e,n,n,o,(.bool false)]),(.agg [(.str [112,117,116]),(j 2),o,e,n,n,o,(j 4),o,e,n,n,o,(.bool false)])])]),(.agg [(.str [69,120,99]),(.slice [(.agg [(.str [114,97,105,115,101]),(j 4),o,e,n,n,o,(j 6),o,(.str [86,111,105,100]),n,n,o,(.bool true)])])])]),n,(j 3),o,e,e,n,n,n]),(.agg [(j 6),o,(.str [76,105,115,116]),(.slice [(.agg [(j 3),o,e,n,n,o])]),n,o]),(j 5)],(.tuple [(j 7),o])),
 ([(.agg [exData,(.slice [(.agg [(.str [83,116,97,116,101]),(.slice [(.agg [(.str [103,101,116]),(j 4),o,e,n,n,o,(j 2),o,e,n,n,o,(.bool false)]),(.agg [(.str [112,117,116]),(j 2),o,e,n,n,o,(j 4),o,e,n,n,o,(.bool false)])])]),(.agg [(.str [69,120,99]),(.slice [(.agg [(.str [114,97,105,115,101]),(j 4),o,e,n,n,o,(j 6),o,(.str [86,111,105,100]),n,n,o,(.bool true)])])])]),n,(j 3),o,e,e,n,n,n]),(.agg [(j 6),o,(.str [76,105,115,116]),(.slice [(.agg [(j 5),o,e,(.slice [(.agg [(j 2),o,e,n,n,o]),(.agg [(j 2),o,e,n,n,o])]),n,(j (-1))])]),n,o]),(j 3)],(.tuple [o,(j 8)]))]
def m24:List (List D × D):=[
 ([(.agg [exData,(.slice [(.agg [(.str [83,116,97,116,101]),(.slice [(.agg [(.str [103,101,116]),(j 4),o,e,n,n,o,(j 2),o,e,n,n,o,(.bool false)]),(.agg [(.str [112,117,116]),(j 2),o,e,n,n,o,(j 4),o,e,n,n,o,(.bool false)])])]),(.agg [(.str [69,120,99]),(.slice [(.agg [(.str [114,97,105,115,101]),(j 4),o,e,n,n,o,(j 6),o,(.str [86,111,105,100]),n,n,o,(.bool true)])])])]),n,(j 3),o,e,e,n,n,n]),(.agg [(j 2),o,e,n,n,o]),(j 1)],(.tuple [(.slice [(.agg [(j 1),o,e,e,n,n,n]),(.agg [(j 1),(j 1),e,e,n,n,n])]),o]))]
def m26:List (List D × D):=[
 ([(.agg [exData,(.slice [(.agg [(.str [83,116,97,116,101]),(.slice [(.agg [(.str [103,101,116]),(j 4),o,e,n,n,o,(j 2),o,e,n,n,o,(.bool false)]),(.agg [(.str [112,117,116]),(j 2),o,e,n,n,o,(j 4),o,e,n,n,o,(.bool false)])])]),(.agg [(.str [69,120,99]),(.slice [(.agg [(.str [114,97,105,115,101]),(j 4),o,e,n,n,o,(j 6),o,(.str [86,111,105,100]),n,n,o,(.bool true)])])])]),n,(j 3),o,e,e,n,n,n]),(.agg [(j 6),o,(.str [76,105,115,116]),(.slice [(.agg [(j 2),o,e,n,n,o])]),n,o]),(.agg [(j 10),o,(.str [67,111,110,115]),e,n,(.slice [(.agg [(j 1),(j (-5)),e,e,n,n,n]),(.agg [(j 10),o,(.str [78,105,108]),e,n,n,n])]),n])],(.tuple [(.bool true),o]))]
def m30:List (List D × D):=[
 ([(.agg [exData,(.slice [(.agg [(.str [83,116,97,116,101]),(.slice [(.agg [(.str [103,101,116]),(j 4),o,e,n,n,o,(j 2),o,e,n,n,o,(.bool false)]),(.agg [(.str [112,117,116]),(j 2),o,e,n,n,o,(j 4),o,e,n,n,o,(.bool false)])])]),(.agg [(.str [69,120,99]),(.slice [(.agg [(.str [114,97,105,115,101]),(j 4),o,e,n,n,o,(j 6),o,(.str [86,111,105,100]),n,n,o,(.bool true)])])])]),n,(j 3),o,e,e,n,n,n]),(.str [76,101,97,102])],(.tuple [(j 2),o,o]))]
def m32:List (List D × D):=[
 ([(.agg [exData,(.slice [(.agg [(.str [83,116,97,116,101]),(.slice [(.agg [(.str [103,101,116]),(j 4),o,e,n,n,o,(j 2),o,e,n,n,o,(.bool false)]),(.agg [(.str [112,117,116]),(j 2),o,e,n,n,o,(j 4),o,e,n,n,o,(.bool false)])])]),(.agg [(.str [69,120,99]),(.slice [(.agg [(.str [114,97,105,115,101]),(j 4),o,e,n,n,o,(j 6),o,(.str [86,111,105,100]),n,n,o,(.bool true)])])])]),n,(j 3),o,e,e,n,n,n]),(.str [114,101,97,100])],(.tuple [(j (-1)),(j 1),o]))]
def m34:List (List D × D):=[
 ([(.agg [exData,(.slice [(.agg [(.str [83,116,97,116,101]),(.slice [(.agg [(.str [103,101,116]),(j 4),o,e,n,n,o,(j 2),o,e,n,n,o,(.bool false)]),(.agg [(.str [112,117,116]),(j 2),o,e,n,n,o,(j 4),o,e,n,n,o,(.bool false)])])]),(.agg [(.str [69,120,99]),(.slice [(.agg [(.str [114,97,105,115,101]),(j 4),o,e,n,n,o,(j 6),o,(.str [86,111,105,100]),n,n,o,(.bool true)])])])]),n,(j 3),o,e,e,n,n,n]),(.str [83,116,97,116,101])],(.tuple [o,o]))]
def m36:List (List D × D):=[
 ([(.agg [exData,(.slice [(.agg [(.str [83,116,97,116,101]),(.slice [(.agg [(.str [103,101,116]),(j 4),o,e,n,n,o,(j 2),o,e,n,n,o,(.bool false)]),(.agg [(.str [112,117,116]),(j 2),o,e,n,n,o,(j 4),o,e,n,n,o,(.bool false)])])]),(.agg [(.str [69,120,99]),(.slice [(.agg [(.str [114,97,105,115,101]),(j 4),o,e,n,n,o,(j 6),o,(.str [86,111,105,100]),n,n,o,(.bool true)])])])]),n,(j 3),o,e,e,n,n,n])],o)]
def m38:List (List D × D):=[
 ([(.agg [exData,(.slice [(.agg [(.str [83,116,97,116,101]),(.slice [(.agg [(.str [103,101,116]),(j 4),o,e,n,n,o,(j 2),o,e,n,n,o,(.bool false)]),(.agg [(.str [112,117,116]),(j 2),o,e,n,n,o,(j 4),o,e,n,n,o,(.bool false)])])]),(.agg [(.str [69,120,99]),(.slice [(.agg [(.str [114,97,105,115,101]),(j 4),o,e,n,n,o,(j 6),o,(.str [86,111,105,100]),n,n,o,(.bool true)])])])]),n,(j 3),o,e,e,n,n,n]),(.agg [(j 10),o,(.str [66,111,120]),e,n,n,n])],(j 6)),
 ([(.agg [exData,(.slice [(.agg [(.str [83,116,97,116,101]),(.slice [(.agg [(.str [103,101,116]),(j 4),o,e,n,n,o,(j 2),o,e,n,n,o,(.bool false)]),(.agg [(.str [112,117,116]),(j 2),o,e,n,n,o,(j 4),o,e,n,n,o,(.bool false)])])]),(.agg [(.str [69,120,99]),(.slice [(.agg [(.str [114,97,105,115,101]),(j 4),o,e,n,n,o,(j 6),o,(.str [86,111,105,100]),n,n,o,(.bool true)])])])]),n,(j 3),o,e,e,n,n,n]),(.agg [(j 10),o,(.str [67,111,110,115]),e,n,(.slice [(.agg [(j 1),(j 1),e,e,n,n,n])]),n])],(j 7)),
 ([(.agg [exData,(.slice [(.agg [(.str [83,116,97,116,101]),(.slice [(.agg [(.str [103,101,116]),(j 4),o,e,n,n,o,(j 2),o,e,n,n,o,(.bool false)]),(.agg [(.str [112,117,116]),(j 2),o,e,n,n,o,(j 4),o,e,n,n,o,(.bool false)])])]),(.agg [(.str [69,120,99]),(.slice [(.agg [(.str [114,97,105,115,101]),(j 4),o,e,n,n,o,(j 6),o,(.str [86,111,105,100]),n,n,o,(.bool true)])])])]),n,(j 3),o,e,e,n,n,n]),(.agg [(j 11),o,e,e,n,(.slice [(.agg [(j 1),(j 1),e,e,n,n,n])]),(.slice [(.agg [(.str [67,111,110,115]),(.slice [(.str [104]),(.str [116])]),(j 1),o,e,e,n,n,n]),(.agg [(.str [78,105,108]),n,(j 1),o,e,e,n,n,n])])])],(j 9)),
 ([(.agg [exData,(.slice [(.agg [(.str [83,116,97,116,101]),(.slice [(.agg [(.str [103,101,116]),(j 4),o,e,n,n,o,(j 2),o,e,n,n,o,(.bool false)]),(.agg [(.str [112,117,116]),(j 2),o,e,n,n,o,(j 4),o,e,n,n,o,(.bool false)])])]),(.agg [(.str [69,120,99]),(.slice [(.agg [(.str [114,97,105,115,101]),(j 4),o,e,n,n,o,(j 6),o,(.str [86,111,105,100]),n,n,o,(.bool true)])])])]),n,(j 3),o,e,e,n,n,n]),(.agg [(j 11),o,e,e,n,(.slice [(.agg [(j 1),(j 1),e,e,n,n,n])]),(.slice [(.agg [(.str [78,105,108]),n,(j 1),o,e,e,n,n,n]),(.agg [(.str [67,111,110,115]),(.slice [(.str [104]),(.str [116])]),(j 1),o,e,e,n,n,n])])])],o),
 ([(.agg [exData,(.slice [(.agg [(.str [83,116,97,116,101]),(.slice [(.agg [(.str [103,101,116]),(j 4),o,e,n,n,o,(j 2),o,e,n,n,o,(.bool false)]),(.agg [(.str [112,117,116]),(j 2),o,e,n,n,o,(j 4),o,e,n,n,o,(.bool false)])])]),(.agg [(.str [69,120,99]),(.slice [(.agg [(.str [114,97,105,115,101]),(j 4),o,e,n,n,o,(j 6),o,(.str [86,111,105,100]),n,n,o,(.bool true)])])])]),n,(j 3),o,e,e,n,n,n]),(.agg [(j 14),o,(.str [83,116,97,116,101]),e,n,(.slice [(.agg [(j 1),(j 1),e,e,n,n,n])]),(.slice [(.agg [(.str [114,101,116,117,114,110]),(.slice [(.str [120])]),(j 1),o,e,e,n,n,n]),(.agg [(.str [103,101,116]),(.slice [(.str [117]),(.str [107])]),(j 1),o,e,e,n,n,n])])])],(j 9))]
def m40:List (List D × D):=[
 ([(.agg [exData,(.slice [(.agg [(.str [83,116,97,116,101]),(.slice [(.agg [(.str [103,101,116]),(j 4),o,e,n,n,o,(j 2),o,e,n,n,o,(.bool false)]),(.agg [(.str [112,117,116]),(j 2),o,e,n,n,o,(j 4),o,e,n,n,o,(.bool false)])])]),(.agg [(.str [69,120,99]),(.slice [(.agg [(.str [114,97,105,115,101]),(j 4),o,e,n,n,o,(j 6),o,(.str [86,111,105,100]),n,n,o,(.bool true)])])])]),n,(j 3),o,e,e,n,n,n]),(.agg [(j 6),o,(.str [76,105,115,116]),n,n,o])],(j 7))]
def m60:List (List D × D):=[
 ([(.agg [(j 1),o,(.str [97]),n,n,o])],o),
 ([(.agg [(j 2),o,e,n,n,o])],o),
 ([(.agg [(j 3),o,e,n,n,o])],o),
 ([(.agg [(j 4),o,e,n,n,o])],o),
 ([(.agg [(j 6),o,(.str [76,105,115,116]),(.slice [(.agg [(j 1),o,(.str [97]),n,n,o])]),n,o])],o),
 ([(.agg [(j 6),o,(.str [76,105,115,116]),(.slice [(.agg [(j 2),o,e,n,n,o])]),n,o])],o),
 ([(.agg [(j 6),o,(.str [76,105,115,116]),(.slice [(.agg [(j 3),o,e,n,n,o])]),n,o])],o),
 ([(.agg [(j 6),o,(.str [76,105,115,116]),(.slice [(.agg [(j 5),o,e,(.slice [(.agg [(j 2),o,e,n,n,o]),(.agg [(j 2),o,e,n,n,o])]),n,(j (-1))])]),n,o])],o),
 ([(.agg [(j 6),o,(.str [76,105,115,116]),(.slice [(.agg [(j 6),o,(.str [86,111,105,100]),n,n,o])]),n,o])],o),
 ([(.agg [(j 6),o,(.str [76,105,115,116]),n,n,o])],o),
 ([(.agg [(j 6),o,(.str [76,111,111,112]),n,n,o])],o),
 ([(.agg [(j 6),o,(.str [84,114,101,101]),n,n,o])],o),
 ([(.agg [(j 6),o,(.str [86,111,105,100]),n,n,o])],o)]
def m80:List (List D × D):=[
 ([(.agg [(j 10),o,(.str [66,111,120]),e,n,n,n])],o),
 ([(.agg [(j 10),o,(.str [67,111,110,115]),e,n,(.slice [(.agg [(j 1),(j (-5)),e,e,n,n,n]),(.agg [(j 10),o,(.str [78,105,108]),e,n,n,n])]),n])],o),
 ([(.agg [(j 10),o,(.str [67,111,110,115]),e,n,(.slice [(.agg [(j 1),(j 1),e,e,n,n,n])]),n])],o),
 ([(.agg [(j 11),o,e,e,n,(.slice [(.agg [(j 1),(j 1),e,e,n,n,n])]),(.slice [(.agg [(.str [67,111,110,115]),(.slice [(.str [104]),(.str [116])]),(j 1),o,e,e,n,n,n]),(.agg [(.str [78,105,108]),n,(j 1),o,e,e,n,n,n])])])],o),
 ([(.agg [(j 11),o,e,e,n,(.slice [(.agg [(j 1),(j 1),e,e,n,n,n])]),(.slice [(.agg [(.str [78,105,108]),n,(j 1),o,e,e,n,n,n]),(.agg [(.str [67,111,110,115]),(.slice [(.str [104]),(.str [116])]),(j 1),o,e,e,n,n,n])])])],o),
 ([(.agg [(j 14),o,(.str [83,116,97,116,101]),e,n,(.slice [(.agg [(j 1),(j 1),e,e,n,n,n])]),(.slice [(.agg [(.str [114,101,116,117,114,110]),(.slice [(.str [120])]),(j 1),o,e,e,n,n,n]),(.agg [(.str [103,101,116]),(.slice [(.str [117]),(.str [107])]),(j 1),o,e,e,n,n,n])])])],o)]
def m95:List (List D × D):=[
 ([(.agg [exData,exEff,n,(j 3),o,e,e,n,n,n])],o),
 ([(.agg [exData,(.slice [(.agg [(.str [83,116,97,116,101]),(.slice [(.agg [(.str [103,101,116]),(j 4),o,e,n,n,o,(j 2),o,e,n,n,o,(.bool false)]),(.agg [(.str [112,117,116]),(j 2),o,e,n,n,o,(j 4),o,e,n,n,o,(.bool false)])])]),(.agg [(.str [69,120,99]),(.slice [(.agg [(.str [114,97,105,115,101]),(j 4),o,e,n,n,o,(j 6),o,(.str [86,111,105,100]),n,n,o,(.bool true)])])])]),n,(j 3),o,e,e,n,n,n])],o)]
def m143:List (List D × D):=[
 ([(.str [103,101,116]),(j 1)],(.bool true)),
 ([(.str [104]),(j 1)],(.bool true)),
 ([(.str [107]),(j 1)],(.bool true)),
 ([(.str [112,117,116]),(j 1)],(.bool true)),
 ([(.str [114,97,105,115,101]),(j 1)],(.bool true)),
 ([(.str [116]),(j 1)],(.bool true)),
 ([(.str [117]),(j 1)],(.bool true)),
 ([(.str [120]),(j 1)],(.bool true)),
 ([(.str [66,111,120]),(j 2)],(.bool true)),
 ([(.str [67,111,110,115]),(j 2)],(.bool true)),
 ([(.str [69,120,99]),(j 2)],(.bool true)),
 ([(.str [73,79]),(j 2)],(.bool true)),
 ([(.str [76,101,97,102]),(j 2)],(.bool true)),
 ([(.str [76,105,115,116]),(j 2)],(.bool true)),
 ([(.str [76,111,111,112]),(j 2)],(.bool true)),
 ([(.str [77,111,114,101]),(j 2)],(.bool true)),
 ([(.str [78,105,108]),(j 2)],(.bool true)),
 ([(.str [78,111,100,101]),(j 2)],(.bool true)),
 ([(.str [83,116,97,116,101]),(j 2)],(.bool true)),
 ([(.str [84,114,101,101]),(j 2)],(.bool true)),
 ([(.str [86,111,105,100]),(j 2)],(.bool true)),
 ([(.str [97]),(j 1)],(.bool true)),
 ([e,o],(.bool true))]
def m210:List (List D × D):=[
 ([(.str [103,101,116])],(.bool false)),
 ([(.str [104])],(.bool false)),
 ([(.str [107])],(.bool false)),
 ([(.str [112,117,116])],(.bool false)),
 ([(.str [114,97,105,115,101])],(.bool false)),
 ([(.str [116])],(.bool false)),
 ([(.str [117])],(.bool false)),
 ([(.str [120])],(.bool false)),
 ([(.str [97])],(.bool false))]
theorem mc210: ∀p ∈ m210,Comp tabT (extOf X0) GC 210 p.1 p.2:=all_comp (k:=60) (by kernel_rfl)
theorem real210:Real Tryz.prog 210:=⟨_,Tryz.func210,by kernel_rfl,by kernel_rfl⟩
def L210:ExtL:=(210,memo m210)::X0
theorem extL210:ExtR Tryz.prog GC (extOf L210):=ExtR.over extR0 extR0 real210 (memo_comp mc210)
theorem mc143: ∀p ∈ m143,Comp tabT (extOf L210) GC 143 p.1 p.2:=all_comp (k:=60) (by kernel_rfl)
theorem real143:Real Tryz.prog 143:=⟨_,Tryz.func143,by kernel_rfl,by kernel_rfl⟩
def L143:ExtL:=(143,memo m143)::L210
theorem extL143:ExtR Tryz.prog GC (extOf L143):=ExtR.over extL210 extL210 real143 (memo_comp mc143)
theorem mc60_0:isAt (extOf L143) 400 60 ((m60[0]?).getD ([],o))=true:=by kernel_rfl
theorem mc60_3:isAt (extOf L143) 400 60 ((m60[3]?).getD ([],o))=true:=by kernel_rfl
theorem mc60_6:isAt (extOf L143) 400 60 ((m60[6]?).getD ([],o))=true:=by kernel_rfl
theorem mc60_9:isAt (extOf L143) 400 60 ((m60[9]?).getD ([],o))=true:=by kernel_rfl
theorem mc60_12:isAt (extOf L143) 400 60 ((m60[12]?).getD ([],o))=true:=by kernel_rfl
theorem mc80_2:isAt (extOf L143) 400 80 ((m80[2]?).getD ([],o))=true:=by kernel_rfl
theorem mc80_5:isAt (extOf L143) 400 80 ((m80[5]?).getD ([],o))=true:=by kernel_rfl
theorem mc60_1:isAt (extOf L143) 400 60 ((m60[1]?).getD ([],o))=true:=by kernel_rfl
theorem mc60_4:isAt (extOf L143) 400 60 ((m60[4]?).getD ([],o))=true:=by kernel_rfl
theorem mc60_7:isAt (extOf L143) 400 60 ((m60[7]?).getD ([],o))=true:=by kernel_rfl
theorem mc60_10:isAt (extOf L143) 400 60 ((m60[10]?).getD ([],o))=true:=by kernel_rfl
theorem mc80_0:isAt (extOf L143) 400 80 ((m80[0]?).getD ([],o))=true:=by kernel_rfl
theorem mc80_3:isAt (extOf L143) 400 80 ((m80[3]?).getD ([],o))=true:=by kernel_rfl
theorem mc60_2:isAt (extOf L143) 400 60 ((m60[2]?).getD ([],o))=true:=by kernel_rfl
theorem mc60_5:isAt (extOf L143) 400 60 ((m60[5]?).getD ([],o))=true:=by kernel_rfl
theorem mc60_8:isAt (extOf L143) 400 60 ((m60[8]?).getD ([],o))=true:=by kernel_rfl
theorem mc60_11:isAt (extOf L143) 400 60 ((m60[11]?).getD ([],o))=true:=by kernel_rfl
theorem mc80_1:isAt (extOf L143) 400 80 ((m80[1]?).getD ([],o))=true:=by kernel_rfl
theorem mc80_4:isAt (extOf L143) 400 80 ((m80[4]?).getD ([],o))=true:=by kernel_rfl
theorem mc60: ∀p ∈ m60,Comp tabT (extOf L143) GC 60 p.1 p.2:=by
 intro p hp
 unfold m60 at hp
 simp only [List.mem_cons,List.not_mem_nil,or_false] at hp
 rcases hp with rfl|rfl|rfl|rfl|rfl|rfl|rfl|rfl|rfl|rfl|rfl|rfl|rfl
 ·exact isAt_comp mc60_0
 ·exact isAt_comp mc60_1
 ·exact isAt_comp mc60_2
 ·exact isAt_comp mc60_3
 ·exact isAt_comp mc60_4
 ·exact isAt_comp mc60_5
 ·exact isAt_comp mc60_6
 ·exact isAt_comp mc60_7
 ·exact isAt_comp mc60_8
 ·exact isAt_comp mc60_9
 ·exact isAt_comp mc60_10
 ·exact isAt_comp mc60_11
 ·exact isAt_comp mc60_12
theorem real60:Real Tryz.prog 60:=⟨_,Tryz.func60,by kernel_rfl,by kernel_rfl⟩
def L60:ExtL:=(60,memo m60)::L143
theorem extL60:ExtR Tryz.prog GC (extOf L60):=ExtR.over extL143 extL143 real60 (memo_comp mc60)
theorem mc80: ∀p ∈ m80,Comp tabT (extOf L143) GC 80 p.1 p.2:=by
 intro p hp
 unfold m80 at hp
 simp only [List.mem_cons,List.not_mem_nil,or_false] at hp
 rcases hp with rfl|rfl|rfl|rfl|rfl|rfl
 ·exact isAt_comp mc80_0
 ·exact isAt_comp mc80_1
 ·exact isAt_comp mc80_2
 ·exact isAt_comp mc80_3
 ·exact isAt_comp mc80_4
 ·exact isAt_comp mc80_5
theorem real80:Real Tryz.prog 80:=⟨_,Tryz.func80,by kernel_rfl,by kernel_rfl⟩
def L80:ExtL:=(80,memo m80)::L60
theorem extL80:ExtR Tryz.prog GC (extOf L80):=ExtR.over extL143 extL60 real80 (memo_comp mc80)
theorem mc95_0:isAt (extOf L80) 400 95 ((m95[0]?).getD ([],o))=true:=by kernel_rfl
theorem mc95_1:isAt (extOf L80) 400 95 ((m95[1]?).getD ([],o))=true:=by kernel_rfl
theorem mc95: ∀p ∈ m95,Comp tabT (extOf L80) GC 95 p.1 p.2:=by
 intro p hp
 unfold m95 at hp
 simp only [List.mem_cons,List.not_mem_nil,or_false] at hp
 rcases hp with rfl|rfl
 ·exact isAt_comp mc95_0
 ·exact isAt_comp mc95_1
theorem real95:Real Tryz.prog 95:=⟨_,Tryz.func95,by kernel_rfl,by kernel_rfl⟩
def L95:ExtL:=(95,memo m95)::L80
theorem extL95:ExtR Tryz.prog GC (extOf L95):=ExtR.over extL80 extL80 real95 (memo_comp mc95)
theorem mc14_0:isAt (extOf L95) 400 14 ((m14[0]?).getD ([],o))=true:=by kernel_rfl
theorem mc20_0:isAt (extOf L95) 400 20 ((m20[0]?).getD ([],o))=true:=by kernel_rfl
theorem mc22_1:isAt (extOf L95) 400 22 ((m22[1]?).getD ([],o))=true:=by kernel_rfl
theorem mc30_0:isAt (extOf L95) 400 30 ((m30[0]?).getD ([],o))=true:=by kernel_rfl
theorem mc36_0:isAt (extOf L95) 400 36 ((m36[0]?).getD ([],o))=true:=by kernel_rfl
theorem mc38_2:isAt (extOf L95) 400 38 ((m38[2]?).getD ([],o))=true:=by kernel_rfl
theorem mc40_0:isAt (extOf L95) 400 40 ((m40[0]?).getD ([],o))=true:=by kernel_rfl
theorem mc14_1:isAt (extOf L95) 400 14 ((m14[1]?).getD ([],o))=true:=by kernel_rfl
theorem mc20_1:isAt (extOf L95) 400 20 ((m20[1]?).getD ([],o))=true:=by kernel_rfl
theorem mc24_0:isAt (extOf L95) 400 24 ((m24[0]?).getD ([],o))=true:=by kernel_rfl
theorem mc32_0:isAt (extOf L95) 400 32 ((m32[0]?).getD ([],o))=true:=by kernel_rfl
theorem mc38_0:isAt (extOf L95) 400 38 ((m38[0]?).getD ([],o))=true:=by kernel_rfl
theorem mc38_3:isAt (extOf L95) 400 38 ((m38[3]?).getD ([],o))=true:=by kernel_rfl
theorem mc15_0:isAt (extOf L95) 400 15 ((m15[0]?).getD ([],o))=true:=by kernel_rfl
theorem mc22_0:isAt (extOf L95) 400 22 ((m22[0]?).getD ([],o))=true:=by kernel_rfl
theorem mc26_0:isAt (extOf L95) 400 26 ((m26[0]?).getD ([],o))=true:=by kernel_rfl
theorem mc34_0:isAt (extOf L95) 400 34 ((m34[0]?).getD ([],o))=true:=by kernel_rfl
theorem mc38_1:isAt (extOf L95) 400 38 ((m38[1]?).getD ([],o))=true:=by kernel_rfl
theorem mc38_4:isAt (extOf L95) 400 38 ((m38[4]?).getD ([],o))=true:=by kernel_rfl
theorem mc14: ∀p ∈ m14,Comp tabT (extOf L95) GC 14 p.1 p.2:=by
 intro p hp
 unfold m14 at hp
 simp only [List.mem_cons,List.not_mem_nil,or_false] at hp
 rcases hp with rfl|rfl
 ·exact isAt_comp mc14_0
 ·exact isAt_comp mc14_1
theorem real14:Real Tryz.prog 14:=⟨_,Tryz.func14,by kernel_rfl,by kernel_rfl⟩
def L14:ExtL:=(14,memo m14)::L95
theorem extL14:ExtR Tryz.prog GC (extOf L14):=ExtR.over extL95 extL95 real14 (memo_comp mc14)
theorem mc15: ∀p ∈ m15,Comp tabT (extOf L95) GC 15 p.1 p.2:=by
 intro p hp
 unfold m15 at hp
 simp only [List.mem_cons,List.not_mem_nil,or_false] at hp
 subst hp
 exact isAt_comp mc15_0
theorem real15:Real Tryz.prog 15:=⟨_,Tryz.func15,by kernel_rfl,by kernel_rfl⟩
def L15:ExtL:=(15,memo m15)::L14
theorem extL15:ExtR Tryz.prog GC (extOf L15):=ExtR.over extL95 extL14 real15 (memo_comp mc15)
theorem mc20: ∀p ∈ m20,Comp tabT (extOf L95) GC 20 p.1 p.2:=by
 intro p hp
 unfold m20 at hp
 simp only [List.mem_cons,List.not_mem_nil,or_false] at hp
 rcases hp with rfl|rfl
 ·exact isAt_comp mc20_0
 ·exact isAt_comp mc20_1
theorem real20:Real Tryz.prog 20:=⟨_,Tryz.func20,by kernel_rfl,by kernel_rfl⟩
def L20:ExtL:=(20,memo m20)::L15
theorem extL20:ExtR Tryz.prog GC (extOf L20):=ExtR.over extL95 extL15 real20 (memo_comp mc20)
theorem mc22: ∀p ∈ m22,Comp tabT (extOf L95) GC 22 p.1 p.2:=by
 intro p hp
 unfold m22 at hp
 simp only [List.mem_cons,List.not_mem_nil,or_false] at hp
 rcases hp with rfl|rfl
 ·exact isAt_comp mc22_0
 ·exact isAt_comp mc22_1
theorem real22:Real Tryz.prog 22:=⟨_,Tryz.func22,by kernel_rfl,by kernel_rfl⟩
def L22:ExtL:=(22,memo m22)::L20
theorem extL22:ExtR Tryz.prog GC (extOf L22):=ExtR.over extL95 extL20 real22 (memo_comp mc22)
theorem mc24: ∀p ∈ m24,Comp tabT (extOf L95) GC 24 p.1 p.2:=by
 intro p hp
 unfold m24 at hp
 simp only [List.mem_cons,List.not_mem_nil,or_false] at hp
 subst hp
 exact isAt_comp mc24_0
theorem real24:Real Tryz.prog 24:=⟨_,Tryz.func24,by kernel_rfl,by kernel_rfl⟩
def L24:ExtL:=(24,memo m24)::L22
theorem extL24:ExtR Tryz.prog GC (extOf L24):=ExtR.over extL95 extL22 real24 (memo_comp mc24)
theorem mc26: ∀p ∈ m26,Comp tabT (extOf L95) GC 26 p.1 p.2:=by
 intro p hp
 unfold m26 at hp
 simp only [List.mem_cons,List.not_mem_nil,or_false] at hp
 subst hp
 exact isAt_comp mc26_0
theorem real26:Real Tryz.prog 26:=⟨_,Tryz.func26,by kernel_rfl,by kernel_rfl⟩
def L26:ExtL:=(26,memo m26)::L24
theorem extL26:ExtR Tryz.prog GC (extOf L26):=ExtR.over extL95 extL24 real26 (memo_comp mc26)
theorem mc30: ∀p ∈ m30,Comp tabT (extOf L95) GC 30 p.1 p.2:=by
 intro p hp
 unfold m30 at hp
 simp only [List.mem_cons,List.not_mem_nil,or_false] at hp
 subst hp
 exact isAt_comp mc30_0
theorem real30:Real Tryz.prog 30:=⟨_,Tryz.func30,by kernel_rfl,by kernel_rfl⟩
def L30:ExtL:=(30,memo m30)::L26
theorem extL30:ExtR Tryz.prog GC (extOf L30):=ExtR.over extL95 extL26 real30 (memo_comp mc30)
theorem mc32: ∀p ∈ m32,Comp tabT (extOf L95) GC 32 p.1 p.2:=by
 intro p hp
 unfold m32 at hp
 simp only [List.mem_cons,List.not_mem_nil,or_false] at hp
 subst hp
 exact isAt_comp mc32_0
theorem real32:Real Tryz.prog 32:=⟨_,Tryz.func32,by kernel_rfl,by kernel_rfl⟩
def L32:ExtL:=(32,memo m32)::L30
theorem extL32:ExtR Tryz.prog GC (extOf L32):=ExtR.over extL95 extL30 real32 (memo_comp mc32)
theorem mc34: ∀p ∈ m34,Comp tabT (extOf L95) GC 34 p.1 p.2:=by
 intro p hp
 unfold m34 at hp
 simp only [List.mem_cons,List.not_mem_nil,or_false] at hp
 subst hp
 exact isAt_comp mc34_0
theorem real34:Real Tryz.prog 34:=⟨_,Tryz.func34,by kernel_rfl,by kernel_rfl⟩
def L34:ExtL:=(34,memo m34)::L32
theorem extL34:ExtR Tryz.prog GC (extOf L34):=ExtR.over extL95 extL32 real34 (memo_comp mc34)
theorem mc36: ∀p ∈ m36,Comp tabT (extOf L95) GC 36 p.1 p.2:=by
 intro p hp
 unfold m36 at hp
 simp only [List.mem_cons,List.not_mem_nil,or_false] at hp
 subst hp
 exact isAt_comp mc36_0
theorem real36:Real Tryz.prog 36:=⟨_,Tryz.func36,by kernel_rfl,by kernel_rfl⟩
def L36:ExtL:=(36,memo m36)::L34
theorem extL36:ExtR Tryz.prog GC (extOf L36):=ExtR.over extL95 extL34 real36 (memo_comp mc36)
theorem mc38: ∀p ∈ m38,Comp tabT (extOf L95) GC 38 p.1 p.2:=by
 intro p hp
 unfold m38 at hp
 simp only [List.mem_cons,List.not_mem_nil,or_false] at hp
 rcases hp with rfl|rfl|rfl|rfl|rfl
 ·exact isAt_comp mc38_0
 ·exact isAt_comp mc38_1
 ·exact isAt_comp mc38_2
 ·exact isAt_comp mc38_3
 ·exact isAt_comp mc38_4
theorem real38:Real Tryz.prog 38:=⟨_,Tryz.func38,by kernel_rfl,by kernel_rfl⟩
def L38:ExtL:=(38,memo m38)::L36
theorem extL38:ExtR Tryz.prog GC (extOf L38):=ExtR.over extL95 extL36 real38 (memo_comp mc38)
theorem mc40: ∀p ∈ m40,Comp tabT (extOf L95) GC 40 p.1 p.2:=by
 intro p hp
 unfold m40 at hp
 simp only [List.mem_cons,List.not_mem_nil,or_false] at hp
 subst hp
 exact isAt_comp mc40_0
theorem real40:Real Tryz.prog 40:=⟨_,Tryz.func40,by kernel_rfl,by kernel_rfl⟩
def L40:ExtL:=(40,memo m40)::L38
theorem extL40:ExtR Tryz.prog GC (extOf L40):=ExtR.over extL95 extL38 real40 (memo_comp mc40)
def XM:ExtL:=L40
theorem extM:ExtR Tryz.prog GC (extOf XM):=extL40
theorem ev16:fnTree tabT (extOf XM) GC 60 16 []=some (.bool true):=by kernel_rfl
theorem real16:Real Tryz.prog 16:=⟨_,Tryz.func16,by kernel_rfl,by kernel_rfl⟩
theorem pure16:PureCall Tryz.prog GC 16 [] (.bool true):=(pure_of_eval extM tabR isGC.tree isGC.natR isGC.post mixed ev16).2.2
end Go.AI
