/- Texts of the proof: what functions of the program compute, step by step. No conditions of its own. -/
import Derived.Test.YtgenoggafhhgfaaGreatDoorChecked
import Derived.Test.YtgenoggafhhgfaaGreatDoorH6
import Derived.KernelRfl
import Derived.Test.YtgenoggafhhgfaaGreatDoorH4
import Derived.Tactics
import Derived.Tactics2
import Derived.Defers
import Derived.Recover
import Derived.Laws.Pointers
import Derived.Shelf.Lay
import Derived.Shelf.LaySoft
import Derived.Shelf.Strings.Fields
import Derived.Test.YtgenoggafhhgfaaGreatDoorProg
import Derived.Below
set_option linter.unusedVariables false
set_option linter.unusedSimpArgs false
namespace Go.AI
open Go Go.Proofs
set_option maxRecDepth 100000
def tE:aK:=
 (.seq (rg [op 80 (ar .lss (tm 79) (tm 78))] [0,1,2,3,8,9,11,13,71,72,73,77,78,79,80])
 (.seq (.cond (tm 80) .skip
 (.exit 4))
 (.seq (.block 5 (.seq (rg [oq 81 (.aj 1 (tm 77) (tm 79)) [82],ld 15 81] [0,1,2,3,8,9,11,13,15,71,72,73,77,78,79])
 (rg [oq 83 (.mv (tm 8)) [89],op 84 (.load true 7 (tm 13)),op 85 (.buildRow 7 1 [(.int .i64 0),(.int .i64 0),(.str []),(.str []),.empty,.empty,.empty] [(0,(tm 84))]),op 87 (.append 7 120 (tm 85) (tm 15)),op 88 (.buildSlice 1 1 [.empty] [(0,(tm 87))]),op 8 (.append 1 24 (tm 83) (tm 88))] [0,1,2,3,8,9,11,13,71,72,73,77,78,79])))
 (rg [oq 79 (ar .add (tm 79) (zi 1)) [90]] [0,1,2,3,8,9,11,13,71,72,73,77,78,79]))))
def tF:aK:=
 (.seq (rg [op 74 (ar .lss (tm 73) (tm 72))] [0,1,2,3,8,9,11,71,72,73,74])
 (.seq (.cond (tm 74) .skip
 (.exit 2))
 (.seq (.block 3 (.seq (rg [op 75 (.aj 7 (tm 71) (tm 73)),op 76 (.load true 7 (tm 75)),op 13 (.alloc z7a),on (.store 7 (tm 13) (tm 76))] [0,1,2,3,8,9,11,13,71,72,73])
 (.seq (rg [op 77 (.mv (tm 11)),op 78 (.len false (tm 77)),op 79 (.mv (zi 0))] [0,1,2,3,8,9,11,13,71,72,73,77,78,79])
 (.block 4 (.loop tE)))))
 (rg [oq 73 (ar .add (tm 73) (zi 1)) [91]] [0,1,2,3,8,9,11,71,72,73]))))
def mN:aK:=
 (.seq (.seq (rg [oq 28 (.len false (tm 1)) [32],op 29 (ar .add (tm 9) (tm 28)),op 30 (ar .sub (tm 29) (zi 1)),op 32 (ar .leq (tm 30) (tm 3))] [0,1,2,3,8,9,32])
 (.cond (tm 32) .skip
 (.exit 0)))
 (.seq (.block 1 (.seq (rg [oq 37 (.sliceRow 6 (tm 1) (some (zi 1)) none none) [42],op 41 (ar .sub (tm 3) (tm 9)),op 10 (.call (.fn 166) [(tm 0),(tm 37),(tm 2),(tm 41)])] [0,1,2,3,8,9,10])
 (.seq (.seq (rg [oq 45 (ar .eql (tm 10) (zi 0)) [55],gf 46 45 (.mv (tm 0)) [],gf 47 45 (.mv (tm 1)) [],gf 48 45 (.aj 6 (tm 47) (zi 0)) [],gf 49 45 (.load true 6 (tm 48)) [],gf 50 45 (.mv (tm 2)) [],gf 51 45 (.build [(.int .i64 0),(.int .i64 0),(.str []),.empty,.empty,(.int .i64 0),.bL] [(0,6,(tm 49)),(6,1,(tm 50))]) [],gf 52 45 (.mv (tm 9)) [],gf 53 45 (.call (.fn 119) [(tm 46),(tm 51),(tm 52)]) [],gf 54 45 (ar .eql (tm 53) (zi 0)) [],op 55 (.pick (tm 45) (.lit (.bool true)) (tm 54))] [0,1,2,3,8,9,55])
 (.cond (tm 55) (.exit 1)
 .skip))
 (.seq (rg [oq 58 (.sliceRow 6 (tm 1) (some (zi 1)) none none) [63],op 62 (ar .sub (tm 3) (tm 9)),op 11 (.call (.fn 126) [(tm 0),(tm 58),(tm 2),(tm 62)])] [0,1,2,3,8,9,11])
 (.seq (rg [oq 66 (.aj 6 (tm 1) (zi 0)) [73],op 67 (.load true 6 (tm 66)),op 69 (.build [(.int .i64 0),(.int .i64 0),(.str []),.empty,.empty,(.int .i64 0),.bL] [(0,6,(tm 67)),(6,1,(tm 2))]),op 71 (.call (.fn 75) [(tm 0),(tm 69),(tm 9)]),op 72 (.len false (tm 71)),op 73 (.mv (zi 0))] [0,1,2,3,8,9,11,71,72,73])
 (.block 2 (.loop tF)))))))
 (rg [oq 33 (.mv (tm 9)) [34],op 9 (ar .add (tm 33) (zi 1))] [0,1,2,3,8,9])))
def nv:aF:=⟨93,4,[.tmp 8],
 (.seq (rg [op 8 (.newrow 1)] [0,1,2,3,8])
 (.seq (.seq (rg [oq 20 (.call (.fn 166) [(tm 0),(tm 1),(tm 2),(tm 3)]) [21],op 21 (ar .eql (tm 20) (zi 0))] [0,1,2,3,8,21])
 (.cond (tm 21) (.seq (rg [op 8 (.newrow 1)] [8])
 .ret)
 .skip))
 (.seq (.seq (rg [oq 23 (.len false (tm 1)) [24],op 24 (ar .eql (tm 23) (zi 0))] [0,1,2,3,8,24])
 (.cond (tm 24) (.seq (rg [oq 8 (.buildSlice 1 1 [.empty] [(0,(.lit .empty))]) [25]] [8])
 .ret)
 .skip))
 (.seq (.seq (rg [op 9 (.mv (zi 1))] [0,1,2,3,8,9])
 (.block 0 (.loop mN)))
 (.seq (rg [oq 8 (.mv (tm 8)) [92]] [8])
 .ret)))))⟩
theorem Hg:Good Tryz.prog (126,nv):=mkK (fun t=>t==8||t==85) Tryz.func126 (by kernel_rfl)
def tG:aK:=
 (.seq (.seq (rg [oq 13 (ar .leq (tm 8) (tm 1)) [13]] [0,1,2,6,7,8,13])
 (.cond (tm 13) .skip
 (.exit 0)))
 (.block 1 (.seq (rg [oq 18 (.call (.fn 170) [(tm 0),(tm 7),(tm 8),(tm 2)]) [18]] [0,1,2,6,8])
 (.seq (rg [oq 7 (.mv (tm 8)) [19]] [0,1,2,6,7,8])
 (rg [oq 20 (.mv (tm 8)) [22],op 8 (ar .add (tm 20) (tm 6))] [0,1,2,6,7,8])))))
def tH:aK:=
 (.seq (.seq (rg [oq 35 (ar .leq (tm 8) (tm 1)) [35]] [0,1,2,6,7,8,35])
 (.cond (tm 35) .skip
 (.exit 4)))
 (.block 5 (.seq (rg [oq 40 (ar .add (tm 7) (tm 6)) [43],op 43 (.call (.fn 171) [(tm 0),(tm 7),(tm 40),(tm 8),(tm 2)])] [0,1,2,6,8])
 (.seq (rg [oq 7 (.mv (tm 8)) [44]] [0,1,2,6,7,8])
 (rg [oq 45 (.mv (tm 8)) [48],op 47 (ar .mul (zi 2) (tm 6)),op 8 (ar .add (tm 45) (tm 47))] [0,1,2,6,7,8])))))
def qe:aK:=
 (.seq (.seq (rg [oq 30 (ar .lss (tm 6) (tm 1)) [30]] [0,1,2,6,30])
 (.cond (tm 30) .skip
 (.exit 2)))
 (.block 3 (.seq (rg [oq 32 (ar .mul (zi 2) (tm 6)) [32],op 7 (.mv (zi 0)),op 8 (.mv (tm 32))] [0,1,2,6,7,8])
 (.seq (.block 4 (.loop tH))
 (.seq (.seq (rg [oq 9 (ar .add (tm 7) (tm 6)) [51]] [0,1,2,6,7,9])
 (.seq (rg [oq 54 (ar .lss (tm 9) (tm 1)) [54]] [0,1,2,6,7,9,54])
 (.cond (tm 54) (rg [oq 60 (.call (.fn 171) [(tm 0),(tm 7),(tm 9),(tm 1),(tm 2)]) [60]] [0,1,2,6])
 .skip)))
 (rg [oq 61 (.mv (tm 6)) [62],op 6 (ar .mul (tm 61) (zi 2))] [0,1,2,6]))))))
def C6:aF:=⟨63,3,[],
 (.seq (rg [op 6 (.mv (zi 20))] [0,1,2,6])
 (.seq (rg [oq 7 (.mv (zi 0)) [10],op 8 (.mv (tm 6))] [0,1,2,6,7,8])
 (.seq (.block 0 (.loop tG))
 (.seq (rg [oq 27 (.call (.fn 170) [(tm 0),(tm 7),(tm 1),(tm 2)]) [27]] [0,1,2,6])
 (.block 2 (.loop qe))))))⟩
theorem Hh:Good Tryz.prog (127,C6):=mkK Z0 Tryz.func127 (by kernel_rfl)
def kr:aK:=
 .skip
def ji:aK:=
 (.block 1 (rg [ld 7 3,op 8 (ar .add (tm 7) (zi 1)),on (.store 1 (tm 3) (tm 8))] [3]))
def Ay:aF:=⟨10,1,[.tmp 2],
 (.seq (rg [oq 1 (.box (tm 0)) [2]] [1])
 (.seq (rg [op 3 (.alloc [(.int .i64 0)]),on (.store 1 (tm 3) (zi 0))] [1,3])
 (.seq (.seq (rg [op 4 (.load true 7 (tm 1)),op 5 (.call (.fn 150) [(tm 4)])] [3,5])
 (.block 0 (.rangeFunc (tm 5) [6] kr ji)))
 (.seq (rg [oq 2 (l1 (tm 3)) [9]] [2])
 .ret))))⟩
theorem Hi:Good Tryz.prog (128,Ay):=mkK Z0 Tryz.func128 (by kernel_rfl)
noncomputable def JB:aF:=cZ Tryz.prog Z0 Tryz.f129
theorem Hj:Good Tryz.prog (129,JB):=mkC Z0 Tryz.func129 (by kernel_rfl)
def Bb:aF:=⟨35,3,[.tmp 6],
 (.seq (rg [oq 3 (.box (tm 0)) [6],op 4 (.box (tm 1)),op 5 (.box (tm 2))] [3,4,5])
 (.seq (rg [ld 7 3,op 8 (.nilCheck (tm 7)),ao 9 0 8,ld 10 9,op 11 (ar .sub (tm 10) (zi 1)),op 12 (.nilCheck (tm 7)),ao 13 0 12,on (.store 1 (tm 13) (tm 11))] [3,4,5])
 (.seq (dr [lq 14 3,lq 15 3,oq 16 (.nilCheck (tm 15)) [15],aq 17 1 16,lq 18 17,lq 19 5,oq 20 (.max2 [(tm 18),(tm 19)]) [18,19],oq 21 (.nilCheck (tm 14)) [14],aq 22 1 21,om (.store 1 (tm 22) (tm 20)) [22,20]] [0,0,2,6,14,0,62,127,255,511] [3,4,5])
 (.seq (.seq (rg [oq 23 (l1 (tm 3)) [31],op 24 (.nilCheck (tm 23)),ao 25 0 24,ld 26 25,op 28 (ar .lss (tm 26) (zi 0)),gf 29 28 (l1 (tm 5)) [],gf 30 28 (ar .gtr (tm 29) (zi 200)) [],op 31 (.pick (tm 28) (.lit (.bool true)) (tm 30))] [3,4,5,31])
 (.cond (tm 31) (.seq (rg [op 6 (.mv (.lit (.bool false)))] [6])
 .ret)
 .skip))
 (.seq (rg [oq 32 (.load true 7 (tm 4)) [34],op 33 (.mkFunc 173 [] [(tm 3),(tm 5)]),op 6 (.call (.fn 172) [(tm 32),(tm 33)])] [6])
 .ret)))))⟩
theorem Hl:Good Tryz.prog (130,Bb):=mkK Z0 Tryz.func130 (by kernel_rfl)
def Bc:aF:=⟨12,1,[.tmp 2],
 (.seq (rg [oq 1 (.box (tm 0)) [2]] [1])
 (.seq (rg [op 4 (.load true 7 (tm 1)),op 5 (.call (.fn 174) [(tm 4)]),op 3 (.alloc [(.int .i64 0)]),on (.store 1 (tm 3) (tm 5))] [1,3])
 (.seq (.seq (rg [ld 6 3,op 7 (ar .eql (tm 6) (zi 0))] [1,3,7])
 (.cond (tm 7) (rg [op 8 (.load true 7 (tm 1)),op 9 (.mkFunc 175 [] [(tm 3)]),op 10 (.call (.fn 172) [(tm 8),(tm 9)])] [3])
 .skip))
 (.seq (rg [oq 2 (l1 (tm 3)) [11]] [2])
 .ret))))⟩
theorem Ho:Good Tryz.prog (131,Bc):=mkK Z0 Tryz.func131 (by kernel_rfl)
def yf:aK:=
 (.seq (.seq (rg [oq 23 (ar .lss (tm 8) (tm 7)) [26],gt 24 23 (.mv (tm 1)) [],gt 25 23 (ar .geq (tm 24) (zi 0)) [],op 26 (.pick (tm 23) (tm 25) (.lit (.bool false)))] [1,2,3,7,8,26])
 (.cond (tm 26) .skip
 (.exit 0)))
 (.seq (.block 1 (.seq (rg [oq 30 (.aB 5 (tm 3)) [33],ld 31 30,op 32 (.len false (tm 31)),op 33 (ar .lss (tm 8) (tm 32))] [1,2,3,7,8,33])
 (.cond (tm 33) (rg [oq 34 (.aB 5 (tm 3)) [42],ld 35 34,op 37 (.aj 7 (tm 35) (tm 8)),op 38 (.load true 7 (tm 37)),op 39 (.mv (tm 1)),op 41 (ar .sub (tm 2) (zi 1)),op 1 (.call (.fn 132) [(tm 38),(tm 39),(tm 41)])] [1,2,3,7,8])
 (rg [oq 43 (.aB 6 (tm 3)) [56],ld 44 43,ao 46 5 3,ld 47 46,op 48 (.len false (tm 47)),op 49 (ar .sub (tm 8) (tm 48)),op 50 (.aj 9 (tm 44) (tm 49)),ao 51 2 50,op 52 (.load true 7 (tm 51)),op 53 (.mv (tm 1)),op 55 (ar .sub (tm 2) (zi 1)),op 1 (.call (.fn 132) [(tm 52),(tm 53),(tm 55)])] [1,2,3,7,8]))))
 (rg [oq 27 (.mv (tm 8)) [28],op 8 (ar .add (tm 27) (zi 1))] [1,2,3,7,8])))
def zL:aF:=⟨58,3,[.tmp 6],
 (.seq (rg [oq 3 (.box (tm 0)) [6]] [1,2,3])
 (.seq (rg [oq 9 (.mv (tm 1)) [10],op 1 (ar .sub (tm 9) (zi 1))] [1,2,3])
 (.seq (.seq (rg [oq 12 (ar .lss (tm 2) (zi 1)) [12]] [1,2,3,12])
 (.cond (tm 12) (.seq (rg [op 6 (.mv (zi (-1)))] [6])
 .ret)
 .skip))
 (.seq (rg [oq 13 (.aB 5 (tm 3)) [19],ld 14 13,op 15 (.len false (tm 14)),ao 16 6 3,ld 17 16,op 18 (.len false (tm 17)),op 7 (ar .add (tm 15) (tm 18))] [1,2,3,7])
 (.seq (.seq (rg [op 8 (.mv (zi 0))] [1,2,3,7,8])
 (.block 0 (.loop yf)))
 (.seq (rg [oq 6 (.mv (tm 1)) [57]] [6])
 .ret))))))⟩
theorem Hp:Good Tryz.prog (132,zL):=mkK Z0 Tryz.func132 (by kernel_rfl)
def o9:aK:=
 (.seq (.seq (rg [oq 49 (.aB 1 (tm 5)) [52],ld 50 49,op 51 (.len false (tm 50)),op 52 (ar .lss (tm 6) (tm 51))] [1,4,5,6,52])
 (.cond (tm 52) .skip
 (.exit 2)))
 (.seq (.block 3 (.seq (rg [oq 55 (.aB 1 (tm 5)) [60],ld 56 55,op 58 (.aj 6 (tm 56) (tm 6)),op 59 (.load true 6 (tm 58)),op 7 (.call (.fn 178) [(tm 59)])] [1,4,5,6,7])
 (.seq (rg [oq 62 (ar .neq (tm 7) (zi 0)) [62]] [1,4,5,6,7,62])
 (.cond (tm 62) (.seq (rg [oq 2 (.mv (tm 7)) [63]] [2])
 .ret)
 .skip))))
 (rg [oq 53 (.mv (tm 6)) [54],op 6 (ar .add (tm 53) (zi 1))] [1,4,5,6])))
def ke:aK:=
 (.seq (.seq (rg [oq 29 (.aB 2 (tm 1)) [32],ld 30 29,op 31 (.len false (tm 30)),op 32 (ar .lss (tm 4) (tm 31))] [1,4,32])
 (.cond (tm 32) .skip
 (.exit 0)))
 (.seq (.block 1 (.seq (rg [oq 35 (.aB 2 (tm 1)) [39],ld 36 35,op 38 (.aj 2 (tm 36) (tm 4)),op 39 (.load true 2 (tm 38)),op 5 (.alloc z2a),on (.store 2 (tm 5) (tm 39))] [1,4,5])
 (.seq (.seq (rg [ao 40 1 5,ld 41 40,op 42 (.len false (tm 41)),op 43 (ar .gtr (tm 42) (zi 4))] [1,4,5,43])
 (.cond (tm 43) (.seq (rg [op 2 (.mv (zi 3))] [2])
 .ret)
 .skip))
 (.seq (.seq (rg [ao 44 0 5,ld 45 44,op 46 (.call (.fn 176) [(tm 45)]),op 47 (.not (tm 46))] [1,4,5,47])
 (.cond (tm 47) (.seq (rg [op 2 (.mv (zi 4))] [2])
 .ret)
 .skip))
 (.seq (rg [op 6 (.mv (zi 0))] [1,4,5,6])
 (.block 2 (.loop o9)))))))
 (rg [oq 33 (.mv (tm 4)) [34],op 4 (ar .add (tm 33) (zi 1))] [1,4])))
def pg:aF:=⟨64,1,[.tmp 2],
 (.seq (rg [oq 1 (.box (tm 0)) [2]] [1])
 (.seq (.seq (rg [oq 8 (.aB 1 (tm 1)) [17],ld 9 8,op 10 (.len false (tm 9)),op 12 (ar .gtr (tm 10) (zi 4)),gf 13 12 (.aB 2 (tm 1)) [],gf 14 12 (l1 (tm 13)) [],gf 15 12 (.len false (tm 14)) [],gf 16 12 (ar .gtr (tm 15) (zi 8)) [],op 17 (.pick (tm 12) (.lit (.bool true)) (tm 16))] [1,17])
 (.cond (tm 17) (.seq (rg [op 2 (.mv (zi 3))] [2])
 .ret)
 .skip))
 (.seq (.seq (rg [ao 18 0 1,ld 19 18,op 20 (.call (.fn 176) [(tm 19)]),op 21 (.not (tm 20))] [1,21])
 (.cond (tm 21) (.seq (rg [op 2 (.mv (zi 4))] [2])
 .ret)
 .skip))
 (.seq (.seq (rg [oq 22 (.aB 1 (tm 1)) [24],ld 23 22,op 3 (.call (.fn 177) [(tm 23)])] [1,3])
 (.seq (rg [oq 26 (ar .neq (tm 3) (zi 0)) [26]] [1,3,26])
 (.cond (tm 26) (.seq (rg [oq 2 (.mv (tm 3)) [27]] [2])
 .ret)
 .skip)))
 (.seq (.seq (rg [op 4 (.mv (zi 0))] [1,4])
 (.block 0 (.loop ke)))
 (.seq (rg [op 2 (.mv (zi 0))] [2])
 .ret))))))⟩
theorem Hq:Good Tryz.prog (133,pg):=mkK Z0 Tryz.func133 (by kernel_rfl)
def j9:aK:=
 (.seq (.seq (rg [oq 15 (.aB 1 (tm 1)) [18],ld 16 15,op 17 (.len false (tm 16)),op 18 (ar .lss (tm 3) (tm 17))] [1,3,18])
 (.cond (tm 18) .skip
 (.exit 0)))
 (.seq (.block 1 (.seq (.seq (rg [oq 21 (.aB 1 (tm 1)) [28],ld 22 21,op 24 (.aj 14 (tm 22) (tm 3)),ao 25 0 24,ld 26 25,op 27 (.call (.fn 135) [(tm 26)]),op 28 (.not (tm 27))] [1,3,28])
 (.cond (tm 28) (.seq (rg [op 2 (.mv (zi 4))] [2])
 .ret)
 .skip))
 (.seq (.seq (rg [oq 29 (.aB 1 (tm 1)) [35],ld 30 29,op 32 (.aj 14 (tm 30) (tm 3)),ao 33 1 32,op 34 (.load true 6 (tm 33)),op 4 (.call (.fn 178) [(tm 34)])] [1,3,4])
 (.seq (rg [oq 37 (ar .neq (tm 4) (zi 0)) [37]] [1,3,4,37])
 (.cond (tm 37) (.seq (rg [oq 2 (.mv (tm 4)) [38]] [2])
 .ret)
 .skip)))
 (.seq (rg [oq 39 (.aB 1 (tm 1)) [45],ld 40 39,op 42 (.aj 14 (tm 40) (tm 3)),ao 43 7 42,op 44 (.load true 6 (tm 43)),op 5 (.call (.fn 178) [(tm 44)])] [1,3,5])
 (.seq (rg [oq 47 (ar .neq (tm 5) (zi 0)) [47]] [1,3,5,47])
 (.cond (tm 47) (.seq (rg [oq 2 (.mv (tm 5)) [48]] [2])
 .ret)
 .skip))))))
 (rg [oq 19 (.mv (tm 3)) [20],op 3 (ar .add (tm 19) (zi 1))] [1,3])))
def rV:aF:=⟨49,1,[.tmp 2],
 (.seq (rg [oq 1 (.box (tm 0)) [2]] [1])
 (.seq (.seq (rg [ao 6 1 1,ld 7 6,op 8 (.len false (tm 7)),op 9 (ar .gtr (tm 8) (zi 8))] [1,9])
 (.cond (tm 9) (.seq (rg [op 2 (.mv (zi 3))] [2])
 .ret)
 .skip))
 (.seq (.seq (rg [ao 10 0 1,ld 11 10,op 12 (.call (.fn 176) [(tm 11)]),op 13 (.not (tm 12))] [1,13])
 (.cond (tm 13) (.seq (rg [op 2 (.mv (zi 4))] [2])
 .ret)
 .skip))
 (.seq (.seq (rg [op 3 (.mv (zi 0))] [1,3])
 (.block 0 (.loop j9)))
 (.seq (rg [op 2 (.mv (zi 0))] [2])
 .ret)))))⟩
theorem Hr:Good Tryz.prog (134,rV):=mkK Z0 Tryz.func134 (by kernel_rfl)
def Di:aF:=⟨11,1,[.tmp 2],
 (.seq (rg [op 2 (.mv (tm 2))] [0])
 (.seq (rg [oq 5 (.call (.fn 179) [(tm 0),(.lit (.int .u8 97)),(.lit (.int .u8 122)),(.lit (.bool true))]) [10],gt 6 5 (.call (.fn 180) []) [],gt 7 5 (.mv (tm 0)) [],gt 8 5 (.call (.fn 122) [(tm 6),(tm 7)]) [],gt 9 5 (.not (tm 8)) [],op 2 (.pick (tm 5) (tm 9) (.lit (.bool false)))] [2])
 .ret))⟩
theorem Hs:Good Tryz.prog (135,Di):=mkK Z0 Tryz.func135 (by kernel_rfl)
def ye:aK:=
 (.seq (.seq (rg [oq 16 (.len false (tm 4)) [17],op 17 (ar .lss (tm 5) (tm 16))] [4,5,17])
 (.cond (tm 17) .skip
 (.exit 0)))
 (.seq (.block 1 (.seq (rg [oq 22 (.aj 7 (tm 4) (tm 5)) [24],op 23 (.load true 7 (tm 22)),op 6 (.call (.fn 136) [(tm 23)])] [4,5,6])
 (.seq (rg [oq 26 (ar .neq (tm 6) (zi 0)) [26]] [4,5,6,26])
 (.cond (tm 26) (.seq (rg [oq 2 (.mv (tm 6)) [27]] [2])
 .ret)
 .skip))))
 (rg [oq 18 (.mv (tm 5)) [19],op 5 (ar .add (tm 18) (zi 1))] [4,5])))
def zK:aF:=⟨28,1,[.tmp 2],
 (.seq (rg [oq 1 (.box (tm 0)) [2]] [1])
 (.seq (.seq (rg [oq 7 (.load true 7 (tm 1)) [8],op 3 (.call (.fn 181) [(tm 7)])] [1,3])
 (.seq (rg [oq 10 (ar .neq (tm 3) (zi 0)) [10]] [1,3,10])
 (.cond (tm 10) (.seq (rg [oq 2 (.mv (tm 3)) [11]] [2])
 .ret)
 .skip)))
 (.seq (rg [oq 12 (.load true 7 (tm 1)) [13],op 4 (.call (.fn 52) [(tm 12)])] [4])
 (.seq (.seq (rg [op 5 (.mv (zi 0))] [4,5])
 (.block 0 (.loop ye)))
 (.seq (rg [op 2 (.mv (zi 0))] [2])
 .ret)))))⟩
theorem Ht:Good Tryz.prog (136,zK):=mkK Z0 Tryz.func136 (by kernel_rfl)
def Dj:aF:=⟨6,1,[.tmp 2],
 (.seq (rg [op 2 (.mv (tm 2))] [0])
 (.seq (rg [oq 3 (.buildSlice 1 3 [(.str [])] [(0,(.lit (.str [73,110,116]))),(1,(.lit (.str [66,111,111,108]))),(2,(.lit (.str [85,110,105,116])))]) [5],op 2 (.call (.fn 122) [(tm 3),(tm 0)])] [2])
 .ret))⟩
theorem Hu:Good Tryz.prog (137,Dj):=mkK Z0 Tryz.func137 (by kernel_rfl)
noncomputable def JC:aF:=cZ Tryz.prog Z0 Tryz.f138
theorem Hv:Good Tryz.prog (138,JC):=mkC Z0 Tryz.func138 (by kernel_rfl)
def tP:aK:=
 (.seq (rg [op 9 (ar .lss (tm 8) (tm 7))] [0,1,7,8,9])
 (.seq (.cond (tm 9) .skip
 (.exit 0))
 (.seq (.block 1 (.seq (rg [oq 5 (.mv (tm 8)) [10]] [0,1,5,7,8])
 (.seq (rg [oq 14 (.aj 2 (tm 0) (tm 5)) [16],op 15 (.load true 2 (tm 14)),op 16 (.call (.val (tm 1)) [(tm 15)])] [0,1,5,7,8,16])
 (.cond (tm 16) (.seq (rg [oq 4 (.mv (tm 5)) [17]] [4])
 .ret)
 .skip))))
 (rg [oq 8 (ar .add (tm 8) (zi 1)) [18]] [0,1,7,8]))))
def Bd:aF:=⟨19,2,[.tmp 4],
 (.seq (rg [op 4 (.mv (tm 4))] [0,1])
 (.seq (.seq (rg [oq 7 (.len false (tm 0)) [8],op 8 (.mv (zi 0))] [0,1,7,8])
 (.block 0 (.loop tP)))
 (.seq (rg [op 4 (.mv (zi (-1)))] [4])
 .ret)))⟩
theorem Hw:Good Tryz.prog (139,Bd):=mkK Z0 Tryz.func139 (by kernel_rfl)
def kK:aK:=
 (.seq (rg [op 33 (ar .lss (tm 32) (tm 31))] [30,31,32,33])
 (.seq (.cond (tm 33) .skip
 (.exit 1))
 (.seq (.block 2 (.seq (rg [op 34 (.aj 2 (tm 30) (tm 32)),op 35 (.load true 2 (tm 34)),op 5 (.alloc z2a),on (.store 2 (tm 5) (tm 35))] [5,30,31,32])
 (.seq (.block 3 (.seq (rg [oq 37 (.aB 1 (tm 5)) [40],ld 38 37,op 39 (.len false (tm 38)),op 36 (ar .gtr (tm 39) (zi 4))] [5,30,31,32,36])
 (.cond (tm 36) (.seq (rg [op 2 (.mv (zi 3))] [2])
 .ret)
 (.seq (rg [oq 42 (.aB 0 (tm 5)) [45],ld 43 42,op 44 (.call (.fn 143) [(tm 43),(zi 2)]),op 41 (.not (tm 44))] [5,30,31,32,41])
 (.cond (tm 41) (.seq (rg [op 2 (.mv (zi 4))] [2])
 .ret)
 .skip)))))
 (.seq (rg [oq 46 (.aB 1 (tm 5)) [48],ld 47 46,op 6 (.call (.fn 183) [(tm 47)])] [6,30,31,32])
 (.seq (rg [oq 50 (ar .neq (tm 6) (zi 0)) [50]] [6,30,31,32,50])
 (.cond (tm 50) (.seq (rg [oq 2 (.mv (tm 6)) [51]] [2])
 .ret)
 .skip))))))
 (rg [oq 32 (ar .add (tm 32) (zi 1)) [52]] [30,31,32]))))
def qu:aF:=⟨53,1,[.tmp 2],
 (.seq (rg [oq 1 (.box (tm 0)) [2]] [1])
 (.seq (.block 0 (.seq (rg [oq 8 (.aB 1 (tm 1)) [17],ld 9 8,op 10 (.len false (tm 9)),op 12 (ar .gtr (tm 10) (zi 4)),gf 13 12 (.aB 2 (tm 1)) [],gf 14 12 (l1 (tm 13)) [],gf 15 12 (.len false (tm 14)) [],gf 16 12 (ar .gtr (tm 15) (zi 8)) [],op 7 (.pick (tm 12) (.lit (.bool true)) (tm 16))] [1,7])
 (.cond (tm 7) (.seq (rg [op 2 (.mv (zi 3))] [2])
 .ret)
 (.seq (rg [oq 19 (.aB 0 (tm 1)) [22],ld 20 19,op 21 (.call (.fn 143) [(tm 20),(zi 2)]),op 18 (.not (tm 21))] [1,18])
 (.cond (tm 18) (.seq (rg [op 2 (.mv (zi 4))] [2])
 .ret)
 .skip)))))
 (.seq (.seq (rg [oq 23 (.aB 1 (tm 1)) [25],ld 24 23,op 3 (.call (.fn 182) [(tm 24),(zi 1)])] [1,3])
 (.seq (rg [oq 27 (ar .neq (tm 3) (zi 0)) [27]] [1,3,27])
 (.cond (tm 27) (.seq (rg [oq 2 (.mv (tm 3)) [28]] [2])
 .ret)
 .skip)))
 (.seq (.seq (rg [ao 29 2 1,ld 30 29,op 31 (.len false (tm 30)),op 32 (.mv (zi 0))] [30,31,32])
 (.block 1 (.loop kK)))
 (.seq (rg [op 2 (.mv (zi 0))] [2])
 .ret)))))⟩
theorem Hx:Good Tryz.prog (140,qu):=mkK Z0 Tryz.func140 (by kernel_rfl)
def m4:aK:=
 (.seq (rg [op 20 (ar .lss (tm 19) (tm 18))] [17,18,19,20])
 (.seq (.cond (tm 20) .skip
 (.exit 1))
 (.seq (.block 2 (.seq (rg [op 21 (.aj 14 (tm 17) (tm 19)),op 22 (.load true 14 (tm 21)),op 4 (.alloc z14),on (.store 14 (tm 4) (tm 22))] [4,17,18,19])
 (.seq (.seq (rg [ao 23 0 4,ld 24 23,op 25 (.call (.fn 143) [(tm 24),(zi 1)]),op 26 (.not (tm 25))] [4,17,18,19,26])
 (.cond (tm 26) (.seq (rg [op 2 (.mv (zi 4))] [2])
 .ret)
 .skip))
 (.seq (rg [oq 27 (.aB 1 (tm 4)) [32],op 28 (.load true 6 (tm 27)),ao 29 7 4,op 30 (.load true 6 (tm 29)),op 31 (.buildSlice 6 2 z6 [(0,(tm 28)),(1,(tm 30))]),op 5 (.call (.fn 183) [(tm 31)])] [5,17,18,19])
 (.seq (rg [oq 34 (ar .neq (tm 5) (zi 0)) [34]] [5,17,18,19,34])
 (.cond (tm 34) (.seq (rg [oq 2 (.mv (tm 5)) [35]] [2])
 .ret)
 .skip))))))
 (rg [oq 19 (ar .add (tm 19) (zi 1)) [36]] [17,18,19]))))
def vM:aF:=⟨37,1,[.tmp 2],
 (.seq (rg [oq 1 (.box (tm 0)) [2]] [1])
 (.seq (.block 0 (.seq (rg [oq 7 (.aB 1 (tm 1)) [10],ld 8 7,op 9 (.len false (tm 8)),op 6 (ar .gtr (tm 9) (zi 8))] [1,6])
 (.cond (tm 6) (.seq (rg [op 2 (.mv (zi 3))] [2])
 .ret)
 (.seq (rg [oq 12 (.aB 0 (tm 1)) [15],ld 13 12,op 14 (.call (.fn 143) [(tm 13),(zi 2)]),op 11 (.not (tm 14))] [1,11])
 (.cond (tm 11) (.seq (rg [op 2 (.mv (zi 4))] [2])
 .ret)
 .skip)))))
 (.seq (.seq (rg [ao 16 1 1,ld 17 16,op 18 (.len false (tm 17)),op 19 (.mv (zi 0))] [17,18,19])
 (.block 1 (.loop m4)))
 (.seq (rg [op 2 (.mv (zi 0))] [2])
 .ret))))⟩
theorem Hy:Good Tryz.prog (141,vM):=mkK Z0 Tryz.func141 (by kernel_rfl)
def zg:aK:=
 (.seq (.seq (rg [oq 13 (ar .geq (tm 4) (zi 0)) [13]] [1,2,3,4,13])
 (.cond (tm 13) .skip
 (.exit 0)))
 (.seq (.block 1 (.seq (rg [oq 16 (.aB 2 (tm 1)) [20],ld 17 16,op 19 (.aj 8 (tm 17) (tm 4)),op 20 (.load true 8 (tm 19)),op 5 (.alloc z8a),on (.store 8 (tm 5) (tm 20))] [1,2,3,4,5])
 (rg [ao 21 0 5,ld 22 21,op 23 (.buildSlice 1 1 [(.str [])] [(0,(tm 22))]),ao 24 1 5,op 25 (.load true 7 (tm 24)),op 26 (.load true 7 (tm 3)),op 27 (.buildSlice 7 2 z7a [(0,(tm 25)),(1,(tm 26))]),op 28 (.build [(.int .i64 0),(.int .i64 0),(.str []),(.str []),(.slice []),(.slice []),(.slice [])] [(0,1,(zi 6)),(4,1,(tm 23)),(5,1,(tm 27))]),on (.store 7 (tm 3) (tm 28))] [1,2,3,4])))
 (rg [oq 14 (.mv (tm 4)) [15],op 4 (ar .sub (tm 14) (zi 1))] [1,2,3,4])))
def Be:aF:=⟨30,1,[.cell 2 true 7],
 (.seq (rg [op 1 (.box (tm 0)),op 2 (.alloc z7a)] [1,2])
 (.seq (rg [ao 6 3 1,op 7 (.load true 7 (tm 6)),op 3 (.alloc z7a),on (.store 7 (tm 3) (tm 7))] [1,2,3])
 (.seq (.seq (rg [oq 8 (.aB 2 (tm 1)) [11],ld 9 8,op 10 (.len false (tm 9)),op 4 (ar .sub (tm 10) (zi 1))] [1,2,3,4])
 (.block 0 (.loop zg)))
 (.seq (rg [op 29 (.load true 7 (tm 3)),on (.store 7 (tm 2) (tm 29))] [2])
 .ret))))⟩
theorem Hz:Good Tryz.prog (142,Be):=mkK (fun t=>t==28) Tryz.func142 (by kernel_rfl)
def nC:aF:=⟨36,2,[.tmp 4],
 (.seq (rg [op 4 (.mv (tm 4))] [0,1])
 (.seq (.seq (rg [op 5 (.mv (tm 1))] [0,5])
 (.block 0 (.seq (rg [oq 6 (ar .eql (tm 5) (zi 1)) [7]] [0,5,6])
 (.cond (tm 6) (.seq (rg [oq 4 (.call (.fn 184) [(tm 0)]) [9]] [4])
 .ret)
 (.seq (rg [oq 10 (ar .eql (tm 5) (zi 2)) [11]] [0,5,10])
 (.cond (tm 10) (.seq (rg [oq 4 (.call (.fn 185) [(tm 0)]) [13]] [4])
 .ret)
 (.seq (rg [oq 14 (ar .eql (tm 5) (zi 3)) [15]] [0,14])
 (.cond (tm 14) (.seq (rg [oq 18 (ar .eql (tm 0) (.lit (.str [43]))) [33],gf 19 18 (.mv (tm 0)) [],gf 20 18 (ar .eql (tm 19) (.lit (.str [45]))) [],op 22 (.pick (tm 18) (.lit (.bool true)) (tm 20)),gf 23 22 (.mv (tm 0)) [],gf 24 22 (ar .eql (tm 23) (.lit (.str [42]))) [],op 26 (.pick (tm 22) (.lit (.bool true)) (tm 24)),gf 27 26 (.mv (tm 0)) [],gf 28 26 (ar .eql (tm 27) (.lit (.str [60]))) [],op 30 (.pick (tm 26) (.lit (.bool true)) (tm 28)),gf 31 30 (.mv (tm 0)) [],gf 32 30 (ar .eql (tm 31) (.lit (.str [61,61]))) [],op 4 (.pick (tm 30) (.lit (.bool true)) (tm 32))] [4])
 .ret)
 .skip))))))))
 (.seq (rg [oq 4 (ar .eql (tm 0) (.lit (.str []))) [35]] [4])
 .ret)))⟩
theorem HA:Good Tryz.prog (143,nC):=mkK Z0 Tryz.func143 (by kernel_rfl)
noncomputable def JD:aF:=cZ Tryz.prog Z0 Tryz.f144
theorem HB:Good Tryz.prog (144,JD):=mkC Z0 Tryz.func144 (by kernel_rfl)
noncomputable def JE:aF:=cZ Tryz.prog Z0 Tryz.f145
theorem HC:Good Tryz.prog (145,JE):=mkC Z0 Tryz.func145 (by kernel_rfl)
noncomputable def JF:aF:=cZ Tryz.prog Z0 Tryz.f147
theorem HD:Good Tryz.prog (147,JF):=mkC Z0 Tryz.func147 (by kernel_rfl)
def Bf:aF:=⟨4,1,[.tmp 2],
 (.seq (rg [oq 1 (.box (tm 0)) [2]] [1])
 (.seq (rg [oq 2 (.mkFunc 191 [] [(tm 1)]) [3]] [2])
 .ret))⟩
theorem HE:Good Tryz.prog (150,Bf):=mkK Z0 Tryz.func150 (by kernel_rfl)
def iA:aK:=
 (.seq (.seq (rg [oq 8 (.len false (tm 0)) [9],op 9 (ar .lss (tm 5) (tm 8))] [0,1,5,9])
 (.cond (tm 9) .skip
 (.exit 0)))
 (.seq (.block 1 (.seq (rg [oq 14 (.aj 1 (tm 0) (tm 5)) [17],ld 15 14,op 17 (ar .eql (tm 15) (tm 1))] [0,1,5,17])
 (.cond (tm 17) (.seq (rg [oq 4 (.mv (tm 5)) [18]] [4])
 .ret)
 .skip)))
 (rg [oq 10 (.mv (tm 5)) [11],op 5 (ar .add (tm 10) (zi 1))] [0,1,5])))
def wT:aF:=⟨19,2,[.tmp 4],
 (.seq (rg [op 4 (.mv (tm 4))] [0,1])
 (.seq (.seq (rg [op 5 (.mv (zi 0))] [0,1,5])
 (.block 0 (.loop iA)))
 (.seq (rg [op 4 (.mv (zi (-1)))] [4])
 .ret)))⟩
theorem HF:Good Tryz.prog (152,wT):=mkK Z0 Tryz.func152 (by kernel_rfl)
def tj:aK:=
 (.seq (.seq (rg [ao 3 0 1,ao 4 0 3,ld 5 4,op 6 (ar .eql (tm 5) (zi 1))] [1,2,6])
 (.cond (tm 6) .skip
 (.exit 0)))
 (.block 1 (dr [aq 7 7 1,lq 8 7,aq 9 6 1,lq 10 9,aq 11 0 1,aq 12 2 11,lq 13 12,oq 14 (.call (.fn 152) [(tm 10),(tm 13)]) [10,13],oq 15 (.aj 8 (tm 8) (tm 14)) [8,14],oq 16 (.load true 8 (tm 15)) [15],om (.store 8 (tm 1) (tm 16)) [1,16]] [0,1,0,4,0,16,48,124,255,511,1023] [1,2])))
def Aa:aF:=⟨18,1,[.cell 2 true 8],
 (.seq (rg [op 1 (.box (tm 0)),op 2 (.alloc z8)] [1,2])
 (.seq (.block 0 (.loop tj))
 (.seq (rg [op 17 (.load true 8 (tm 1)),on (.store 8 (tm 2) (tm 17))] [2])
 .ret)))⟩
theorem HG:Good Tryz.prog (155,Aa):=mkK Z0 Tryz.func155 (by kernel_rfl)
def zZ:aF:=⟨34,3,[.tmp 6],
 (.seq (rg [oq 3 (.box (tm 0)) [6],op 4 (.box (tm 1))] [2,3,4])
 (.seq (dr [aq 9 0 3,lq 10 9,oq 11 (.load true 10 (tm 3)) [3],aq 12 0 4,aq 13 2 12,lq 14 13,oq 15 (.call (.fn 123) [(tm 11),(tm 14)]) [11,14],oq 16 (.aj 3 (tm 10) (tm 15)) [10,15],oq 17 (.load true 3 (tm 16)) [16],op 7 (.alloc z3),om (.store 3 (tm 7) (tm 17)) [7,17]] [0,1,0,0,8,24,60,127,255,0,1023] [2,4,7])
 (.seq (dr [aq 18 1 7,lq 19 18,oq 20 (.load true 8 (tm 4)) [4],aq 21 0 4,aq 22 3 21,lq 23 22,oq 24 (.call (.fn 195) [(tm 20),(tm 23)]) [20,23],oq 25 (.build [(.int .i64 0),(.int .i64 0),(.str []),(.slice []),(.slice []),(.int .i64 0),(.slice []),(.slice [])] [(6,1,(tm 19)),(7,1,(tm 24))]) [19,24],op 8 (.alloc z8),om (.store 8 (tm 8) (tm 25)) [8,25]] [0,1,0,0,8,24,60,127,0,511] [2,7,8])
 (.seq (dr [oq 26 (.load true 8 (tm 8)) [8],aq 27 2 7,lq 28 27,oq 29 (.mv (tm 2)) [2],oq 30 (.aj 2 (tm 28) (tm 29)) [28,29],aq 31 1 30,lq 32 31,oq 33 (.call (.fn 195) [(tm 26),(tm 32)]) [26,32],oq 6 (.mv (tm 33)) [33]] [0,0,2,0,14,30,62,127,255] [6])
 .ret))))⟩
theorem HH:Good Tryz.prog (156,zZ):=mkK (fun t=>t==25) Tryz.func156 (by kernel_rfl)
def Dk:aF:=⟨15,3,[.tmp 6],
 (.seq (rg [op 6 (.mv (tm 6))] [0,1,2])
 (.seq (rg [oq 10 (ar .leq (tm 1) (tm 0)) [14],gt 11 10 (.mv (tm 0)) [],gt 12 10 (.mv (tm 2)) [],gt 13 10 (ar .leq (tm 11) (tm 12)) [],op 6 (.pick (tm 10) (tm 13) (.lit (.bool false)))] [6])
 .ret))⟩
theorem HI:Good Tryz.prog (157,Dk):=mkK Z0 Tryz.func157 (by kernel_rfl)
def pY:aK:=
 (.seq (.seq (rg [oq 70 (.len false (tm 10)) [71],op 71 (ar .lss (tm 11) (tm 70))] [2,5,6,7,8,9,10,11,71])
 (.cond (tm 71) .skip
 (.exit 6)))
 (.seq (.block 7 (.seq (rg [oq 77 (.aj 1 (tm 10) (tm 11)) [80],ld 78 77,op 79 (.call (.fn 122) [(tm 5),(tm 78)]),op 80 (.not (tm 79))] [2,5,6,7,8,9,10,11,80])
 (.cond (tm 80) (rg [oq 81 (.mv (tm 5)) [87],op 84 (.aj 1 (tm 10) (tm 11)),ld 85 84,op 86 (.buildSlice 1 1 [(.str [])] [(0,(tm 85))]),op 5 (.append 1 16 (tm 81) (tm 86))] [2,5,6,7,8,9,10,11])
 .skip)))
 (rg [oq 72 (.mv (tm 11)) [73],op 11 (ar .add (tm 72) (zi 1))] [2,5,6,7,8,9,10,11])))
def pZ:aK:=
 (.seq (.seq (rg [oq 40 (.aB 0 (tm 2)) [51],ld 41 40,op 43 (.aj 3 (tm 41) (tm 7)),ao 44 2 43,ld 45 44,op 47 (.aj 2 (tm 45) (tm 8)),ao 48 1 47,ld 49 48,op 50 (.len false (tm 49)),op 51 (ar .lss (tm 9) (tm 50))] [2,5,6,7,8,9,51])
 (.cond (tm 51) .skip
 (.exit 4)))
 (.seq (.block 5 (.seq (rg [oq 54 (.aB 0 (tm 2)) [67],ld 55 54,op 57 (.aj 3 (tm 55) (tm 7)),ao 58 2 57,ld 59 58,op 61 (.aj 2 (tm 59) (tm 8)),ao 62 1 61,ld 63 62,op 65 (.aj 6 (tm 63) (tm 9)),op 66 (.load true 6 (tm 65)),op 10 (.call (.fn 196) [(tm 66)])] [2,5,6,7,8,9,10])
 (.seq (rg [op 11 (.mv (zi 0))] [2,5,6,7,8,9,10,11])
 (.block 6 (.loop pY)))))
 (rg [oq 52 (.mv (tm 9)) [53],op 9 (ar .add (tm 52) (zi 1))] [2,5,6,7,8,9])))
def p4:aK:=
 (.seq (.seq (rg [oq 29 (.aB 0 (tm 2)) [36],ld 30 29,op 32 (.aj 3 (tm 30) (tm 7)),ao 33 2 32,ld 34 33,op 35 (.len false (tm 34)),op 36 (ar .lss (tm 8) (tm 35))] [2,5,6,7,8,36])
 (.cond (tm 36) .skip
 (.exit 2)))
 (.seq (.block 3 (.seq (rg [op 9 (.mv (zi 0))] [2,5,6,7,8,9])
 (.block 4 (.loop pZ))))
 (rg [oq 37 (.mv (tm 8)) [38],op 8 (ar .add (tm 37) (zi 1))] [2,5,6,7,8])))
def mL:aK:=
 (.seq (.seq (rg [oq 16 (.len false (tm 5)) [17],op 17 (ar .lss (tm 6) (tm 16))] [2,5,6,17])
 (.cond (tm 17) .skip
 (.exit 0)))
 (.seq (.block 1 (.seq (dr [oq 20 (.load true 10 (tm 2)) [2],oq 21 (.mv (tm 5)) [5],oq 22 (.mv (tm 6)) [6],oq 23 (.aj 1 (tm 21) (tm 22)) [21,22],lq 24 23,oq 25 (.call (.fn 123) [(tm 20),(tm 24)]) [20,24],oq 7 (.mv (tm 25)) [25]] [0,0,0,6,14,31,63] [2,5,6,7])
 (.seq (.seq (rg [oq 27 (ar .lss (tm 7) (zi 0)) [27]] [2,5,6,7,27])
 (.cond (tm 27) (.seq (rg [op 4 (.mv (.lit (.bool true)))] [4])
 .ret)
 .skip))
 (.seq (rg [op 8 (.mv (zi 0))] [2,5,6,7,8])
 (.block 2 (.loop p4))))))
 (rg [oq 18 (.mv (tm 6)) [19],op 6 (ar .add (tm 18) (zi 1))] [2,5,6])))
def As:aF:=⟨88,2,[.tmp 4],
 (.seq (rg [oq 2 (.box (tm 0)) [4],op 3 (.box (tm 1))] [2,3])
 (.seq (rg [oq 12 (.load true 6 (tm 3)) [13],op 5 (.call (.fn 196) [(tm 12)])] [2,5])
 (.seq (.seq (rg [op 6 (.mv (zi 0))] [2,5,6])
 (.block 0 (.loop mL)))
 (.seq (rg [op 4 (.mv (.lit (.bool false)))] [4])
 .ret))))⟩
theorem HJ:Good Tryz.prog (158,As):=mkK Z0 Tryz.func158 (by kernel_rfl)
def pS:aK:=
 (.seq (.seq (rg [oq 17 (ar .leq (tm 8) (tm 2)) [17]] [1,2,3,7,8,17])
 (.cond (tm 17) .skip
 (.exit 0)))
 (.seq (.block 1 (.seq (dr [oq 20 (.load true 10 (tm 3)) [3],oq 21 (.mv (tm 1)) [1],oq 22 (.aj 8 (tm 21) (zi 0)) [21],oq 23 (.load true 8 (tm 22)) [22],oq 24 (.mv (tm 8)) [8],oq 25 (.call (.fn 106) [(tm 20),(tm 23),(tm 24)]) [20,23,24],oq 9 (.mv (tm 25)) [25]] [0,0,2,6,0,31,63] [1,2,3,7,8,9])
 (.seq (rg [oq 27 (ar .gtr (tm 9) (zi 0)) [27]] [1,2,3,7,8,9,27])
 (.cond (tm 27) (dr [oq 28 (.mv (tm 7)) [7],oq 29 (.mv (tm 9)) [9],oq 30 (.load true 10 (tm 3)) [3],oq 31 (.mv (tm 1)) [1],oq 32 (.sliceRow 8 (tm 31) (some (zi 1)) none none) [31],oq 33 (.mv (tm 2)) [2],oq 34 (.mv (tm 8)) [8],oq 35 (ar .sub (tm 33) (tm 34)) [33,34],oq 36 (.call (.fn 159) [(tm 30),(tm 32),(tm 35)]) [30,32,35],oq 37 (ar .mul (tm 29) (tm 36)) [29,36],oq 38 (ar .add (tm 28) (tm 37)) [28,37],oq 7 (.mv (tm 38)) [38]] [0,0,0,0,8,0,0,96,252,510,1023,2047] [1,2,3,7,8])
 .skip))))
 (rg [oq 18 (.mv (tm 8)) [19],op 8 (ar .add (tm 18) (zi 1))] [1,2,3,7,8])))
def sg:aF:=⟨40,3,[.tmp 6],
 (.seq (rg [oq 3 (.box (tm 0)) [6]] [1,2,3])
 (.seq (.seq (rg [oq 11 (.len false (tm 1)) [12],op 12 (ar .eql (tm 11) (zi 0))] [1,2,3,12])
 (.cond (tm 12) (.seq (.seq (rg [oq 14 (ar .eql (tm 2) (zi 0)) [14]] [14])
 (.cond (tm 14) (.seq (rg [op 6 (.mv (zi 1))] [6])
 .ret)
 .skip))
 (.seq (rg [op 6 (.mv (zi 0))] [6])
 .ret))
 .skip))
 (.seq (rg [op 7 (.mv (zi 0))] [1,2,3,7])
 (.seq (.seq (rg [op 8 (.mv (zi 1))] [1,2,3,7,8])
 (.block 0 (.loop pS)))
 (.seq (rg [oq 6 (.mv (tm 7)) [39]] [6])
 .ret)))))⟩
theorem HK:Good Tryz.prog (159,sg):=mkK Z0 Tryz.func159 (by kernel_rfl)
def tA:aK:=
 (.seq (.seq (rg [oq 51 (.len false (tm 9)) [52],op 52 (ar .lss (tm 12) (tm 51))] [1,2,3,7,8,9,10,11,12,52])
 (.cond (tm 52) .skip
 (.exit 4)))
 (.seq (.block 5 (dr [oq 55 (.mv (tm 7)) [7],oq 56 (.mv (tm 10)) [10],oq 57 (.mv (tm 11)) [11],oq 58 (.aj 7 (tm 56) (tm 57)) [56,57],oq 59 (.load true 7 (tm 58)) [58],oq 60 (.buildRow 7 1 [(.int .i64 0),(.int .i64 0),(.str []),(.str []),.empty,.empty,.empty] [(0,(tm 59))]) [59],oq 61 (.mv (tm 9)) [9],oq 62 (.mv (tm 12)) [12],oq 63 (.aj 1 (tm 61) (tm 62)) [61,62],lq 64 63,oq 65 (.append 7 120 (tm 60) (tm 64)) [60,64],oq 66 (.buildSlice 1 1 [.empty] [(0,(tm 65))]) [65],oq 67 (.append 1 24 (tm 55) (tm 66)) [55,66],oq 7 (.mv (tm 67)) [67]] [0,0,0,6,14,30,0,0,192,448,1022,2046,4095,8191] [1,2,3,7,8,9,10,11,12]))
 (rg [oq 53 (.mv (tm 12)) [54],op 12 (ar .add (tm 53) (zi 1))] [1,2,3,7,8,9,10,11,12])))
def tC:aK:=
 (.seq (.seq (rg [oq 45 (.len false (tm 10)) [46],op 46 (ar .lss (tm 11) (tm 45))] [1,2,3,7,8,9,10,11,46])
 (.cond (tm 46) .skip
 (.exit 2)))
 (.seq (.block 3 (.seq (rg [op 12 (.mv (zi 0))] [1,2,3,7,8,9,10,11,12])
 (.block 4 (.loop tA))))
 (rg [oq 47 (.mv (tm 11)) [48],op 11 (ar .add (tm 47) (zi 1))] [1,2,3,7,8,9,10,11])))
def p6:aK:=
 (.seq (.seq (rg [oq 24 (ar .leq (tm 8) (tm 2)) [24]] [1,2,3,7,8,24])
 (.cond (tm 24) .skip
 (.exit 0)))
 (.seq (.block 1 (.seq (dr [oq 27 (.load true 10 (tm 3)) [3],oq 28 (.mv (tm 1)) [1],oq 29 (.sliceRow 8 (tm 28) (some (zi 1)) none none) [28],oq 30 (.mv (tm 2)) [2],oq 31 (.mv (tm 8)) [8],oq 32 (ar .sub (tm 30) (tm 31)) [30,31],oq 33 (.call (.fn 160) [(tm 27),(tm 29),(tm 32)]) [27,29,32],oq 9 (.mv (tm 33)) [33]] [0,0,2,0,0,24,63,127] [1,2,3,7,8,9])
 (.seq (.seq (rg [oq 35 (.len false (tm 9)) [36],op 36 (ar .eql (tm 35) (zi 0))] [1,2,3,7,8,9,36])
 (.cond (tm 36) (.exit 1)
 .skip))
 (.seq (dr [oq 37 (.load true 10 (tm 3)) [3],oq 38 (.mv (tm 1)) [1],oq 39 (.aj 8 (tm 38) (zi 0)) [38],oq 40 (.load true 8 (tm 39)) [39],oq 41 (.mv (tm 8)) [8],oq 42 (.call (.fn 107) [(tm 37),(tm 40),(tm 41)]) [37,40,41],oq 10 (.mv (tm 42)) [42]] [0,0,2,6,0,31,63] [1,2,3,7,8,9,10])
 (.seq (rg [op 11 (.mv (zi 0))] [1,2,3,7,8,9,10,11])
 (.block 2 (.loop tC)))))))
 (rg [oq 25 (.mv (tm 8)) [26],op 8 (ar .add (tm 25) (zi 1))] [1,2,3,7,8])))
def lS:aF:=⟨69,3,[.tmp 6],
 (.seq (rg [oq 3 (.box (tm 0)) [6]] [1,2,3])
 (.seq (.seq (rg [oq 13 (.load true 10 (tm 3)) [17],op 16 (.call (.fn 159) [(tm 13),(tm 1),(tm 2)]),op 17 (ar .eql (tm 16) (zi 0))] [1,2,3,17])
 (.cond (tm 17) (.seq (rg [op 6 (.mv (.lit .empty))] [6])
 .ret)
 .skip))
 (.seq (.seq (rg [oq 19 (.len false (tm 1)) [20],op 20 (ar .eql (tm 19) (zi 0))] [1,2,3,20])
 (.cond (tm 20) (.seq (rg [oq 6 (.buildSlice 1 1 [.empty] [(0,(.lit .empty))]) [21]] [6])
 .ret)
 .skip))
 (.seq (rg [op 7 (.newrow 1)] [1,2,3,7])
 (.seq (.seq (rg [op 8 (.mv (zi 1))] [1,2,3,7,8])
 (.block 0 (.loop p6)))
 (.seq (rg [oq 6 (.mv (tm 7)) [68]] [6])
 .ret))))))⟩
theorem HL:Good Tryz.prog (160,lS):=mkK (fun t=>t==7||t==60) Tryz.func160 (by kernel_rfl)
def Bg:aF:=⟨9,2,[.tmp 4],
 (.seq (rg [op 4 (.mv (tm 4))] [0,1])
 (.seq (rg [oq 7 (.call (.fn 197) [(tm 0),(tm 1)]) [8],op 4 (ar .geq (tm 7) (zi 0))] [4])
 .ret))⟩
theorem HM:Good Tryz.prog (161,Bg):=mkK Z0 Tryz.func161 (by kernel_rfl)
def Bh:aF:=⟨11,3,[.tmp 4],
 (.seq (rg [oq 3 (.box (tm 0)) [4]] [1,2,3])
 (.seq (rg [oq 5 (l1 (tm 1)) [10],op 6 (.load true 6 (tm 3)),ld 7 2,op 8 (ar .add (tm 7) (zi 1)),op 9 (.call (.fn 113) [(tm 5),(tm 6),(tm 8)]),op 4 (.not (tm 9))] [4])
 .ret))⟩
theorem HN:Good Tryz.prog (162,Bh):=mkK Z0 Tryz.func162 (by kernel_rfl)
def fP:aF:=⟨78,1,[.tmp 2],
 (.seq (rg [oq 1 (.box (tm 0)) [2]] [1])
 (.seq (.seq (rg [oq 8 (.aB 0 (tm 1)) [27],ld 9 8,op 10 (.call (.fn 198) [(tm 9),(zi 0),(zi 6)]),op 12 (.not (tm 10)),gf 13 12 (.aB 1 (tm 1)) [],gf 14 12 (l1 (tm 13)) [],gf 15 12 (.call (.fn 198) [(tm 14),(zi 0),(zi 999999999)]) [],gf 16 12 (.not (tm 15)) [],op 18 (.pick (tm 12) (.lit (.bool true)) (tm 16)),gf 19 18 (.aB 0 (tm 1)) [],gf 20 18 (l1 (tm 19)) [],gf 21 18 (ar .neq (tm 20) (zi 0)) [],gf 22 18 (.mv (tm 21)) [],gt 23 22 (.aB 1 (tm 1)) [],gt 24 22 (l1 (tm 23)) [],gt 25 22 (ar .gtr (tm 24) (zi 0)) [],gf 26 18 (.pick (tm 22) (tm 25) (.lit (.bool false))) [],op 27 (.pick (tm 18) (.lit (.bool true)) (tm 26))] [1,27])
 (.cond (tm 27) (.seq (rg [op 2 (.mv (zi 1))] [2])
 .ret)
 .skip))
 (.seq (rg [op 3 (.mv (zi 0)),op 4 (.mv (zi 0)),op 5 (.mv (zi 0))] [1,3,4,5])
 (.seq (.seq (rg [ao 28 0 1,ld 29 28] [1,3,4,5,29])
 (.block 0 (.seq (rg [oq 30 (ar .eql (tm 29) (zi 1)) [31]] [1,3,4,5,29,30])
 (.cond (tm 30) (rg [op 3 (.mv (zi 1))] [1,3,4,5])
 (.seq (rg [oq 32 (ar .eql (tm 29) (zi 6)) [33]] [1,3,4,5,29,32])
 (.cond (tm 32) (rg [op 3 (.mv (zi 2)),op 5 (.mv (zi 4))] [1,3,4,5])
 (.seq (rg [oq 34 (ar .eql (tm 29) (zi 5)) [35]] [1,3,4,5,34])
 (.cond (tm 34) (rg [op 4 (.mv (zi 2)),op 5 (.mv (zi 2))] [1,3,4,5])
 .skip))))))))
 (.seq (rg [oq 37 (.aB 2 (tm 1)) [41],ld 38 37,op 36 (.call (.fn 199) [(tm 38)]),op 40 (.extract (tm 36) 0),op 41 (.extract (tm 36) 1),op 7 (.mv (tm 41))] [1,3,4,5,7])
 (.seq (.block 1 (.seq (rg [oq 43 (.aB 2 (tm 1)) [50],ld 44 43,op 46 (.call (.fn 143) [(tm 44),(tm 3)]),op 48 (.not (tm 46)),gf 49 48 (.mv (tm 7)) [],op 42 (.pick (tm 48) (.lit (.bool true)) (tm 49))] [1,4,5,42])
 (.cond (tm 42) (.seq (rg [op 2 (.mv (zi 4))] [2])
 .ret)
 (.seq (rg [oq 52 (.aB 3 (tm 1)) [58],ld 53 52,op 54 (.len false (tm 53)),op 57 (.call (.fn 198) [(tm 54),(tm 4),(tm 5)]),op 51 (.not (tm 57))] [1,51])
 (.cond (tm 51) (.seq (rg [op 2 (.mv (zi 7))] [2])
 .ret)
 (.seq (rg [oq 60 (.aB 0 (tm 1)) [62],ld 61 60,op 59 (ar .eql (tm 61) (zi 5))] [1,59])
 (.cond (tm 59) (.seq (rg [oq 63 (.aB 4 (tm 1)) [65],op 64 (.load true 2 (tm 63)),op 2 (.call (.fn 200) [(tm 64)])] [2])
 .ret)
 (.seq (rg [oq 67 (.aB 4 (tm 1)) [77],ao 68 0 67,ld 69 68,op 70 (.len false (tm 69)),op 72 (ar .gtr (tm 70) (zi 0)),gf 73 72 (.aB 4 (tm 1)) [],gf 74 72 (.aB 1 (tm 73)) [],gf 75 72 (l1 (tm 74)) [],gf 76 72 (ar .neq (tm 75) (zi 0)) [],op 66 (.pick (tm 72) (.lit (.bool true)) (tm 76))] [66])
 (.cond (tm 66) (.seq (rg [op 2 (.mv (zi 1))] [2])
 .ret)
 .skip)))))))))
 (.seq (rg [op 2 (.mv (zi 0))] [2])
 .ret)))))))⟩
theorem HO:Good Tryz.prog (163,fP):=mkK Z0 Tryz.func163 (by kernel_rfl)
def Dl:aF:=⟨8,2,[.tmp 4],
 (.seq (rg [op 4 (.mv (tm 4))] [0,1])
 (.seq (rg [oq 4 (.call (.fn 201) [(tm 0),(tm 1)]) [7]] [4])
 .ret))⟩
theorem HP:Good Tryz.prog (164,Dl):=mkK Z0 Tryz.func164 (by kernel_rfl)
def Bi:aF:=⟨8,2,[.tmp 3],
 (.seq (rg [oq 2 (.box (tm 0)) [3]] [1,2])
 (.seq (rg [oq 4 (.aB 0 (tm 2)) [7],ld 5 4,ld 6 1,op 3 (ar .eql (tm 5) (tm 6))] [3])
 .ret))⟩
theorem HQ:Good Tryz.prog (165,Bi):=mkK Z0 Tryz.func165 (by kernel_rfl)
def kj:aK:=
 (.seq (.seq (rg [oq 19 (.len false (tm 1)) [23],op 20 (ar .add (tm 10) (tm 19)),op 21 (ar .sub (tm 20) (zi 1)),op 23 (ar .leq (tm 21) (tm 3))] [0,1,2,3,9,10,23])
 (.cond (tm 23) .skip
 (.exit 0)))
 (.seq (.block 1 (.seq (rg [oq 28 (.aj 6 (tm 1) (zi 0)) [33],op 29 (.load true 6 (tm 28)),op 31 (.build [(.int .i64 0),(.int .i64 0),(.str []),.empty,.empty,(.int .i64 0),.bL] [(0,6,(tm 29)),(6,1,(tm 2))]),op 11 (.call (.fn 119) [(tm 0),(tm 31),(tm 10)])] [0,1,2,3,9,10,11])
 (.seq (rg [oq 35 (ar .gtr (tm 11) (zi 0)) [35]] [0,1,2,3,9,10,11,35])
 (.cond (tm 35) (rg [oq 36 (.mv (tm 9)) [47],op 40 (.sliceRow 6 (tm 1) (some (zi 1)) none none),op 44 (ar .sub (tm 3) (tm 10)),op 45 (.call (.fn 166) [(tm 0),(tm 40),(tm 2),(tm 44)]),op 46 (ar .mul (tm 11) (tm 45)),op 9 (ar .add (tm 36) (tm 46))] [0,1,2,3,9,10])
 .skip))))
 (rg [oq 24 (.mv (tm 10)) [25],op 10 (ar .add (tm 24) (zi 1))] [0,1,2,3,9,10])))
def lQ:aF:=⟨49,4,[.tmp 8],
 (.seq (rg [op 8 (.mv (tm 8))] [0,1,2,3])
 (.seq (.seq (rg [oq 13 (.len false (tm 1)) [14],op 14 (ar .eql (tm 13) (zi 0))] [0,1,2,3,14])
 (.cond (tm 14) (.seq (.seq (rg [oq 16 (ar .eql (tm 3) (zi 0)) [16]] [16])
 (.cond (tm 16) (.seq (rg [op 8 (.mv (zi 1))] [8])
 .ret)
 .skip))
 (.seq (rg [op 8 (.mv (zi 0))] [8])
 .ret))
 .skip))
 (.seq (rg [op 9 (.mv (zi 0))] [0,1,2,3,9])
 (.seq (.seq (rg [op 10 (.mv (zi 1))] [0,1,2,3,9,10])
 (.block 0 (.loop kj)))
 (.seq (rg [oq 8 (.mv (tm 9)) [48]] [8])
 .ret)))))⟩
theorem HR:Good Tryz.prog (166,lQ):=mkK Z0 Tryz.func166 (by kernel_rfl)
def vN:aF:=⟨20,2,[.tmp 4],
 (.seq (rg [op 4 (.mv (tm 4))] [0,1])
 (.seq (.seq (rg [oq 6 (ar .eql (tm 1) (zi 1)) [6]] [0,1,6])
 (.cond (tm 6) (.seq (rg [oq 4 (.call (.fn 135) [(tm 0)]) [8]] [4])
 .ret)
 .skip))
 (.seq (.seq (rg [oq 10 (ar .eql (tm 1) (zi 2)) [10]] [0,1,10])
 (.cond (tm 10) (.seq (rg [oq 4 (.call (.fn 176) [(tm 0)]) [12]] [4])
 .ret)
 .skip))
 (.seq (.seq (rg [oq 14 (ar .eql (tm 1) (zi 3)) [14]] [0,14])
 (.cond (tm 14) (.seq (rg [oq 15 (.buildSlice 1 5 [(.str [])] [(0,(.lit (.str [43]))),(1,(.lit (.str [45]))),(2,(.lit (.str [42]))),(3,(.lit (.str [60]))),(4,(.lit (.str [61,61])))]) [17],op 4 (.call (.fn 122) [(tm 15),(tm 0)])] [4])
 .ret)
 .skip))
 (.seq (rg [oq 4 (ar .eql (tm 0) (.lit (.str []))) [19]] [4])
 .ret)))))⟩
theorem HS:Good Tryz.prog (167,vN):=mkK Z0 Tryz.func167 (by kernel_rfl)
def Dm:aF:=⟨6,1,[.tmp 2],
 (.seq (rg [op 2 (.mv (tm 2))] [0])
 (.seq (rg [oq 3 (.buildSlice 1 3 [(.str [])] [(0,(.lit (.str [73,110,116]))),(1,(.lit (.str [66,111,111,108]))),(2,(.lit (.str [85,110,105,116])))]) [5],op 2 (.call (.fn 122) [(tm 3),(tm 0)])] [2])
 .ret))⟩
theorem HT:Good Tryz.prog (168,Dm):=mkK Z0 Tryz.func168 (by kernel_rfl)
def mE:aK:=
 (.seq (.seq (rg [oq 5 (.aB 0 (tm 1)) [8],ld 6 5,op 7 (.len false (tm 6)),op 8 (ar .lss (tm 3) (tm 7))] [1,3,8])
 (.cond (tm 8) .skip
 (.exit 0)))
 (.seq (.block 1 (.seq (.seq (rg [oq 11 (.aB 0 (tm 1)) [18],ld 12 11,op 14 (.aj 2 (tm 12) (tm 3)),ao 15 0 14,ld 16 15,op 17 (.call (.fn 176) [(tm 16)]),op 18 (.not (tm 17))] [1,3,18])
 (.cond (tm 18) (.seq (rg [op 2 (.mv (zi 4))] [2])
 .ret)
 .skip))
 (.seq (rg [oq 19 (.aB 0 (tm 1)) [26],ld 20 19,op 22 (.aj 2 (tm 20) (tm 3)),ao 23 1 22,ld 24 23,op 25 (.call (.fn 157) [(tm 24),(zi 0),(zi 999999999)]),op 26 (.not (tm 25))] [1,3,26])
 (.cond (tm 26) (.seq (rg [op 2 (.mv (zi 1))] [2])
 .ret)
 .skip))))
 (rg [oq 9 (.mv (tm 3)) [10],op 3 (ar .add (tm 9) (zi 1))] [1,3])))
def rT:aF:=⟨31,1,[.tmp 2],
 (.seq (rg [oq 1 (.box (tm 0)) [2]] [1])
 (.seq (.seq (rg [op 3 (.mv (zi 0))] [1,3])
 (.block 0 (.loop mE)))
 (.seq (.seq (rg [ao 27 1 1,ld 28 27,op 29 (.call (.fn 157) [(tm 28),(zi (-1)),(zi 999999999)]),op 30 (.not (tm 29))] [30])
 (.cond (tm 30) (.seq (rg [op 2 (.mv (zi 1))] [2])
 .ret)
 .skip))
 (.seq (rg [op 2 (.mv (zi 0))] [2])
 .ret))))⟩
theorem HV:Good Tryz.prog (169,rT):=mkK Z0 Tryz.func169 (by kernel_rfl)
def yJ:aK:=
 (.seq (.seq (dr [oq 18 (.mv (tm 9)) [9],oq 19 (.mv (tm 1)) [1],oq 20 (ar .gtr (tm 18) (tm 19)) [18,19],oq 21 (.mv (tm 20)) [20],gt 22 21 (.mv (tm 3)) [3,21],gt 23 21 (.mv (tm 0)) [0,21],gt 24 21 (.mv (tm 9)) [9,21],gt 25 21 (.aj 7 (tm 23) (tm 24)) [23,24,21],gt 26 21 (.load true 7 (tm 25)) [25,21],gt 27 21 (.mv (tm 0)) [0,21],gt 28 21 (.mv (tm 9)) [9,21],gt 29 21 (ar .sub (tm 28) (zi 1)) [28,21],gt 30 21 (.aj 7 (tm 27) (tm 29)) [27,29,21],gt 31 21 (.load true 7 (tm 30)) [30,21],gt 32 21 (.call (.val (tm 22)) [(tm 26),(tm 31)]) [22,26,31,21],gt 33 21 (ar .lss (tm 32) (zi 0)) [32,21],oq 34 (.pick (tm 21) (tm 33) (.lit (.bool false))) [21,33]] [0,0,3,7,15,15,15,111,239,15,15,1039,3599,7695,16383,32767,65535] [0,1,2,3,8,9,34])
 (.cond (tm 34) .skip
 (.exit 2)))
 (.seq (.block 3 (dr [oq 37 (.mv (tm 0)) [0],oq 38 (.mv (tm 9)) [9],oq 39 (.mv (tm 0)) [0],oq 40 (.mv (tm 9)) [9],oq 41 (ar .sub (tm 40) (zi 1)) [40],oq 42 (.mv (tm 0)) [0],oq 43 (.mv (tm 9)) [9],oq 44 (ar .sub (tm 43) (zi 1)) [43],oq 45 (.aj 7 (tm 42) (tm 44)) [42,44],oq 46 (.load true 7 (tm 45)) [45],oq 47 (.mv (tm 0)) [0],oq 48 (.mv (tm 9)) [9],oq 49 (.aj 7 (tm 47) (tm 48)) [47,48],oq 50 (.load true 7 (tm 49)) [49],oq 51 (.aj 7 (tm 37) (tm 38)) [37,38],om (.store 7 (tm 51) (tm 46)) [51,46],oq 52 (.aj 7 (tm 39) (tm 41)) [39,41],om (.store 7 (tm 52) (tm 50)) [52,50]] [0,0,0,0,8,0,0,64,224,480,0,0,3072,7168,16355,32739,65535,131071] [0,1,2,3,8,9]))
 (rg [oq 35 (.mv (tm 9)) [36],op 9 (ar .sub (tm 35) (zi 1))] [0,1,2,3,8,9])))
def mP:aK:=
 (.seq (.seq (rg [oq 14 (ar .lss (tm 8) (tm 2)) [14]] [0,1,2,3,8,14])
 (.cond (tm 14) .skip
 (.exit 0)))
 (.seq (.block 1 (.seq (rg [oq 9 (.mv (tm 8)) [17]] [0,1,2,3,8,9])
 (.block 2 (.loop yJ))))
 (rg [oq 15 (.mv (tm 8)) [16],op 8 (ar .add (tm 15) (zi 1))] [0,1,2,3,8])))
def AB:aF:=⟨53,4,[],
 (.seq (rg [oq 8 (ar .add (tm 1) (zi 1)) [11]] [0,1,2,3,8])
 (.block 0 (.loop mP)))⟩
theorem HW:Good Tryz.prog (170,AB):=mkK Z0 Tryz.func170 (by kernel_rfl)
def tI:aK:=
 (.seq (.seq (rg [oq 33 (ar .lss (tm 10) (tm 11)) [33]] [0,1,4,10,11,33])
 (.cond (tm 33) .skip
 (.exit 0)))
 (.block 1 (.seq (rg [oq 36 (ar .add (tm 10) (tm 11)) [39],op 37 (.toInt .u64 (tm 36)),op 38 (ar .shr (tm 37) (.lit (.int .u64 1))),op 12 (.toInt .i64 (tm 38))] [0,1,4,10,11,12])
 (.seq (dr [oq 40 (.mv (tm 4)) [4],oq 41 (.mv (tm 0)) [0],oq 42 (.mv (tm 12)) [12],oq 43 (.aj 7 (tm 41) (tm 42)) [41,42],oq 44 (.load true 7 (tm 43)) [43],oq 45 (.mv (tm 0)) [0],oq 46 (.mv (tm 1)) [1],oq 47 (.aj 7 (tm 45) (tm 46)) [45,46],oq 48 (.load true 7 (tm 47)) [47],oq 49 (.call (.val (tm 40)) [(tm 44),(tm 48)]) [40,44,48],oq 50 (ar .lss (tm 49) (zi 0)) [49]] [0,0,0,6,14,0,0,96,224,511,1023] [0,1,4,10,11,12,50])
 (.cond (tm 50) (rg [oq 10 (ar .add (tm 12) (zi 1)) [52]] [0,1,4,10,11])
 (rg [oq 11 (.mv (tm 12)) [53]] [0,1,4,10,11]))))))
def yL:aK:=
 (.seq (.seq (rg [oq 57 (ar .sub (tm 10) (zi 1)) [58],op 58 (ar .lss (tm 13) (tm 57))] [0,10,13,58])
 (.cond (tm 58) .skip
 (.exit 2)))
 (.seq (.block 3 (dr [oq 61 (.mv (tm 0)) [0],oq 62 (.mv (tm 13)) [13],oq 63 (.mv (tm 0)) [0],oq 64 (.mv (tm 13)) [13],oq 65 (ar .add (tm 64) (zi 1)) [64],oq 66 (.mv (tm 0)) [0],oq 67 (.mv (tm 13)) [13],oq 68 (ar .add (tm 67) (zi 1)) [67],oq 69 (.aj 7 (tm 66) (tm 68)) [66,68],oq 70 (.load true 7 (tm 69)) [69],oq 71 (.mv (tm 0)) [0],oq 72 (.mv (tm 13)) [13],oq 73 (.aj 7 (tm 71) (tm 72)) [71,72],oq 74 (.load true 7 (tm 73)) [73],oq 75 (.aj 7 (tm 61) (tm 62)) [61,62],om (.store 7 (tm 75) (tm 70)) [75,70],oq 76 (.aj 7 (tm 63) (tm 65)) [63,65],om (.store 7 (tm 76) (tm 74)) [76,74]] [0,0,0,0,8,0,0,64,224,480,0,0,3072,7168,16355,32739,65535,131071] [0,10,13]))
 (rg [oq 59 (.mv (tm 13)) [60],op 13 (ar .add (tm 59) (zi 1))] [0,10,13])))
def tJ:aK:=
 (.seq (.seq (rg [oq 85 (ar .lss (tm 14) (tm 15)) [85]] [0,2,4,14,15,85])
 (.cond (tm 85) .skip
 (.exit 4)))
 (.block 5 (.seq (rg [oq 88 (ar .add (tm 14) (tm 15)) [91],op 89 (.toInt .u64 (tm 88)),op 90 (ar .shr (tm 89) (.lit (.int .u64 1))),op 16 (.toInt .i64 (tm 90))] [0,2,4,14,15,16])
 (.seq (dr [oq 92 (.mv (tm 4)) [4],oq 93 (.mv (tm 0)) [0],oq 94 (.mv (tm 2)) [2],oq 95 (.aj 7 (tm 93) (tm 94)) [93,94],oq 96 (.load true 7 (tm 95)) [95],oq 97 (.mv (tm 0)) [0],oq 98 (.mv (tm 16)) [16],oq 99 (.aj 7 (tm 97) (tm 98)) [97,98],oq 100 (.load true 7 (tm 99)) [99],oq 101 (.call (.val (tm 92)) [(tm 96),(tm 100)]) [92,96,100],oq 102 (ar .lss (tm 101) (zi 0)) [101],oq 103 (.not (tm 102)) [102]] [0,0,0,6,14,0,0,96,224,511,1023,2047] [0,2,4,14,15,16,103])
 (.cond (tm 103) (rg [oq 14 (ar .add (tm 16) (zi 1)) [105]] [0,2,4,14,15])
 (rg [oq 15 (.mv (tm 16)) [106]] [0,2,4,14,15]))))))
def yM:aK:=
 (.seq (.seq (rg [oq 110 (ar .gtr (tm 17) (tm 14)) [110]] [0,14,17,110])
 (.cond (tm 110) .skip
 (.exit 6)))
 (.seq (.block 7 (dr [oq 113 (.mv (tm 0)) [0],oq 114 (.mv (tm 17)) [17],oq 115 (.mv (tm 0)) [0],oq 116 (.mv (tm 17)) [17],oq 117 (ar .sub (tm 116) (zi 1)) [116],oq 118 (.mv (tm 0)) [0],oq 119 (.mv (tm 17)) [17],oq 120 (ar .sub (tm 119) (zi 1)) [119],oq 121 (.aj 7 (tm 118) (tm 120)) [118,120],oq 122 (.load true 7 (tm 121)) [121],oq 123 (.mv (tm 0)) [0],oq 124 (.mv (tm 17)) [17],oq 125 (.aj 7 (tm 123) (tm 124)) [123,124],oq 126 (.load true 7 (tm 125)) [125],oq 127 (.aj 7 (tm 113) (tm 114)) [113,114],om (.store 7 (tm 127) (tm 122)) [127,122],oq 128 (.aj 7 (tm 115) (tm 117)) [115,117],om (.store 7 (tm 128) (tm 126)) [128,126]] [0,0,0,0,8,0,0,64,224,480,0,0,3072,7168,16355,32739,65535,131071] [0,14,17]))
 (rg [oq 111 (.mv (tm 17)) [112],op 17 (ar .sub (tm 111) (zi 1))] [0,14,17])))
def tK:aK:=
 (.seq (.seq (rg [oq 151 (ar .lss (tm 20) (tm 21)) [151]] [0,1,2,3,4,18,19,20,21,22,151])
 (.cond (tm 151) .skip
 (.exit 8)))
 (.block 9 (.seq (rg [oq 154 (ar .add (tm 20) (tm 21)) [157],op 155 (.toInt .u64 (tm 154)),op 156 (ar .shr (tm 155) (.lit (.int .u64 1))),op 23 (.toInt .i64 (tm 156))] [0,1,2,3,4,18,19,20,21,22,23])
 (.seq (dr [oq 158 (.mv (tm 4)) [4],oq 159 (.mv (tm 0)) [0],oq 160 (.mv (tm 22)) [22],oq 161 (.mv (tm 23)) [23],oq 162 (ar .sub (tm 160) (tm 161)) [160,161],oq 163 (.aj 7 (tm 159) (tm 162)) [159,162],oq 164 (.load true 7 (tm 163)) [163],oq 165 (.mv (tm 0)) [0],oq 166 (.mv (tm 23)) [23],oq 167 (.aj 7 (tm 165) (tm 166)) [165,166],oq 168 (.load true 7 (tm 167)) [167],oq 169 (.call (.val (tm 158)) [(tm 164),(tm 168)]) [158,164,168],oq 170 (ar .lss (tm 169) (zi 0)) [169],oq 171 (.not (tm 170)) [170]] [0,0,0,0,12,30,62,0,0,384,896,2047,4095,8191] [0,1,2,3,4,18,19,20,21,22,23,171])
 (.cond (tm 171) (rg [oq 20 (ar .add (tm 23) (zi 1)) [173]] [0,1,2,3,4,18,19,20,21,22])
 (rg [oq 21 (.mv (tm 23)) [174]] [0,1,2,3,4,18,19,20,21,22]))))))
def so:aF:=⟨220,5,[],
 (.seq (.seq (rg [oq 27 (ar .sub (tm 2) (tm 1)) [28],op 28 (ar .eql (tm 27) (zi 1))] [0,1,2,3,4,28])
 (.cond (tm 28) (.seq (rg [oq 10 (.mv (tm 2)) [29]] [0,1,3,4,10])
 (.seq (rg [oq 11 (.mv (tm 3)) [30]] [0,1,4,10,11])
 (.seq (.block 0 (.loop tI))
 (.seq (.seq (rg [oq 13 (.mv (tm 1)) [54]] [0,10,13])
 (.block 2 (.loop yL)))
 .ret))))
 .skip))
 (.seq (.seq (rg [oq 79 (ar .sub (tm 3) (tm 2)) [80],op 80 (ar .eql (tm 79) (zi 1))] [0,1,2,3,4,80])
 (.cond (tm 80) (.seq (rg [oq 14 (.mv (tm 1)) [81]] [0,2,4,14])
 (.seq (rg [oq 15 (.mv (tm 2)) [82]] [0,2,4,14,15])
 (.seq (.block 4 (.loop tJ))
 (.seq (.seq (rg [oq 17 (.mv (tm 2)) [107]] [0,14,17])
 (.block 6 (.loop yM)))
 .ret))))
 .skip))
 (.seq (rg [oq 131 (ar .add (tm 1) (tm 3)) [134],op 132 (.toInt .u64 (tm 131)),op 133 (ar .shr (tm 132) (.lit (.int .u64 1))),op 18 (.toInt .i64 (tm 133))] [0,1,2,3,4,18])
 (.seq (rg [oq 19 (ar .add (tm 18) (tm 2)) [137]] [0,1,2,3,4,18,19])
 (.seq (rg [op 21 (.mv (tm 21))] [0,1,2,3,4,18,19])
 (.seq (.seq (rg [oq 140 (ar .gtr (tm 2) (tm 18)) [140]] [0,1,2,3,4,18,19,140])
 (.cond (tm 140) (.seq (rg [oq 20 (ar .sub (tm 19) (tm 3)) [143]] [0,1,2,3,4,18,19,20])
 (rg [oq 21 (.mv (tm 18)) [144]] [0,1,2,3,4,18,19,20,21]))
 (.seq (rg [oq 20 (.mv (tm 1)) [145]] [0,1,2,3,4,18,19,20])
 (rg [oq 21 (.mv (tm 2)) [146]] [0,1,2,3,4,18,19,20,21]))))
 (.seq (rg [oq 22 (ar .sub (tm 19) (zi 1)) [148]] [0,1,2,3,4,18,19,20,21,22])
 (.seq (.block 8 (.loop tK))
 (.seq (rg [oq 24 (ar .sub (tm 19) (tm 20)) [177]] [0,1,2,3,4,18,20,24])
 (.seq (.seq (rg [oq 181 (ar .lss (tm 20) (tm 2)) [185],gt 182 181 (.mv (tm 2)) [],gt 183 181 (.mv (tm 24)) [],gt 184 181 (ar .lss (tm 182) (tm 183)) [],op 185 (.pick (tm 181) (tm 184) (.lit (.bool false)))] [0,1,2,3,4,18,20,24,185])
 (.cond (tm 185) (rg [oq 191 (.call (.fn 202) [(tm 0),(tm 20),(tm 2),(tm 24),(tm 4)]) [191]] [0,1,3,4,18,20,24])
 .skip))
 (.seq (.seq (rg [oq 195 (ar .lss (tm 1) (tm 20)) [199],gt 196 195 (.mv (tm 20)) [],gt 197 195 (.mv (tm 18)) [],gt 198 195 (ar .lss (tm 196) (tm 197)) [],op 199 (.pick (tm 195) (tm 198) (.lit (.bool false)))] [0,1,3,4,18,20,24,199])
 (.cond (tm 199) (rg [oq 205 (.call (.fn 171) [(tm 0),(tm 1),(tm 20),(tm 18),(tm 4)]) [205]] [0,3,4,18,24])
 .skip))
 (.seq (rg [oq 209 (ar .lss (tm 18) (tm 24)) [213],gt 210 209 (.mv (tm 24)) [],gt 211 209 (.mv (tm 3)) [],gt 212 209 (ar .lss (tm 210) (tm 211)) [],op 213 (.pick (tm 209) (tm 212) (.lit (.bool false)))] [0,3,4,18,24,213])
 (.cond (tm 213) (rg [oq 219 (.call (.fn 171) [(tm 0),(tm 18),(tm 24),(tm 3),(tm 4)]) [219]] [])
 .skip)))))))))))))⟩
theorem HX:Good Tryz.prog (171,so):=mkK Z0 Tryz.func171 (by kernel_rfl)
def zh:aK:=
 (.seq (rg [op 13 (ar .lss (tm 12) (tm 11))] [1,2,10,11,12,13])
 (.seq (.cond (tm 13) .skip
 (.exit 0))
 (.seq (.block 1 (.seq (rg [op 14 (.aj 7 (tm 10) (tm 12)),op 15 (.load true 7 (tm 14)),op 6 (.alloc z7a),on (.store 7 (tm 6) (tm 15))] [1,2,6,10,11,12])
 (.seq (rg [oq 17 (.load true 7 (tm 6)) [19],op 18 (.call (.val (tm 1)) [(tm 17)]),op 19 (.not (tm 18))] [1,2,10,11,12,19])
 (.cond (tm 19) (.seq (rg [op 4 (.mv (.lit (.bool false)))] [4])
 .ret)
 .skip))))
 (rg [oq 12 (ar .add (tm 12) (zi 1)) [20]] [1,2,10,11,12]))))
def zj:aK:=
 (.seq (rg [op 25 (ar .lss (tm 24) (tm 23))] [1,22,23,24,25])
 (.seq (.cond (tm 25) .skip
 (.exit 2))
 (.seq (.block 3 (.seq (rg [op 26 (.aj 9 (tm 22) (tm 24)),op 27 (.load true 9 (tm 26)),op 8 (.alloc z9a),on (.store 9 (tm 8) (tm 27))] [1,8,22,23,24])
 (.seq (rg [oq 29 (.aB 2 (tm 8)) [32],op 30 (.load true 7 (tm 29)),op 31 (.call (.val (tm 1)) [(tm 30)]),op 32 (.not (tm 31))] [1,22,23,24,32])
 (.cond (tm 32) (.seq (rg [op 4 (.mv (.lit (.bool false)))] [4])
 .ret)
 .skip))))
 (rg [oq 24 (ar .add (tm 24) (zi 1)) [33]] [1,22,23,24]))))
def Bj:aF:=⟨34,2,[.tmp 4],
 (.seq (rg [oq 2 (.box (tm 0)) [4]] [1,2])
 (.seq (.seq (rg [ao 9 5 2,ld 10 9,op 11 (.len false (tm 10)),op 12 (.mv (zi 0))] [1,2,10,11,12])
 (.block 0 (.loop zh)))
 (.seq (.seq (rg [ao 21 6 2,ld 22 21,op 23 (.len false (tm 22)),op 24 (.mv (zi 0))] [1,22,23,24])
 (.block 2 (.loop zj)))
 (.seq (rg [op 4 (.mv (.lit (.bool true)))] [4])
 .ret))))⟩
theorem HY:Good Tryz.prog (172,Bj):=mkK Z0 Tryz.func172 (by kernel_rfl)
noncomputable def JG:aF:=cZ Tryz.prog Z0 Tryz.f173
theorem HZ:Good Tryz.prog (173,JG):=mkC Z0 Tryz.func173 (by kernel_rfl)
def zk:aK:=
 (.seq (rg [op 110 (ar .lss (tm 109) (tm 108))] [1,3,108,109,110])
 (.seq (.cond (tm 110) .skip
 (.exit 1))
 (.seq (.block 2 (.seq (rg [oq 7 (.mv (tm 109)) [111]] [1,3,7,108,109])
 (.seq (rg [oq 112 (.load true 7 (tm 1)) [114],op 8 (.call (.fn 203) [(tm 112),(tm 7)])] [1,3,8,108,109])
 (.seq (rg [oq 116 (ar .neq (tm 8) (zi 0)) [116]] [1,3,8,108,109,116])
 (.cond (tm 116) (.seq (rg [oq 2 (.mv (tm 8)) [117]] [2])
 .ret)
 .skip)))))
 (rg [oq 109 (ar .add (tm 109) (zi 1)) [118]] [1,3,108,109]))))
def Bk:aF:=⟨132,1,[.tmp 2],
 (.seq (rg [oq 1 (.box (tm 0)) [2]] [1])
 (.seq (.seq (rg [ao 9 0 1,ld 10 9,op 11 (.call (.fn 198) [(tm 10),(zi 0),(zi 19)]),op 12 (.not (tm 11))] [1,12])
 (.cond (tm 12) (.seq (rg [op 2 (.mv (zi 1))] [2])
 .ret)
 .skip))
 (.seq (rg [ao 13 0 1,ld 14 13,op 15 (.indexAddrA 20 9 (.au 0) (tm 14)),op 16 (.load true 9 (tm 15)),op 3 (.alloc z9),on (.store 9 (tm 3) (tm 16))] [1,3])
 (.seq (.block 0 (.seq (rg [oq 18 (.aB 1 (tm 1)) [25],ld 19 18,ao 20 7 3,ld 21 20,ao 22 8 3,ld 23 22,op 24 (.call (.fn 198) [(tm 19),(tm 21),(tm 23)]),op 17 (.not (tm 24))] [1,3,17])
 (.cond (tm 17) (.seq (rg [op 2 (.mv (zi 1))] [2])
 .ret)
 (.seq (rg [oq 27 (.aB 2 (tm 1)) [40],ld 28 27,ao 29 0 3,ld 30 29,op 31 (.call (.fn 143) [(tm 28),(tm 30)]),op 33 (.not (tm 31)),gf 34 33 (.aB 3 (tm 1)) [],gf 35 33 (l1 (tm 34)) [],gf 36 33 (.aB 1 (tm 3)) [],gf 37 33 (l1 (tm 36)) [],gf 38 33 (.call (.fn 143) [(tm 35),(tm 37)]) [],gf 39 33 (.not (tm 38)) [],op 26 (.pick (tm 33) (.lit (.bool true)) (tm 39))] [1,3,26])
 (.cond (tm 26) (.seq (rg [op 2 (.mv (zi 4))] [2])
 .ret)
 (.seq (rg [oq 42 (.aB 4 (tm 1)) [67],ld 43 42,op 44 (.len false (tm 43)),ao 45 2 3,ld 46 45,ao 47 2 3,ld 48 47,ao 49 3 3,ld 50 49,op 51 (ar .add (tm 48) (tm 50)),op 52 (.call (.fn 198) [(tm 44),(tm 46),(tm 51)]),op 54 (.not (tm 52)),gf 55 54 (.aB 5 (tm 1)) [],gf 56 54 (l1 (tm 55)) [],gf 57 54 (.len false (tm 56)) [],gf 58 54 (.aB 4 (tm 3)) [],gf 59 54 (l1 (tm 58)) [],gf 60 54 (.aB 4 (tm 3)) [],gf 61 54 (l1 (tm 60)) [],gf 62 54 (.aB 5 (tm 3)) [],gf 63 54 (l1 (tm 62)) [],gf 64 54 (ar .add (tm 61) (tm 63)) [],gf 65 54 (.call (.fn 198) [(tm 57),(tm 59),(tm 64)]) [],gf 66 54 (.not (tm 65)) [],op 41 (.pick (tm 54) (.lit (.bool true)) (tm 66))] [1,3,41])
 (.cond (tm 41) (.seq (rg [op 2 (.mv (zi 7))] [2])
 .ret)
 (.seq (rg [oq 69 (.aB 6 (tm 3)) [83],ld 70 69,op 72 (.not (tm 70)),gt 73 72 (.aB 6 (tm 1)) [],gt 74 72 (l1 (tm 73)) [],gt 75 72 (.len false (tm 74)) [],gt 76 72 (ar .gtr (tm 75) (zi 0)) [],op 78 (.pick (tm 72) (tm 76) (.lit (.bool false))),gf 79 78 (.aB 6 (tm 1)) [],gf 80 78 (l1 (tm 79)) [],gf 81 78 (.len false (tm 80)) [],gf 82 78 (ar .gtr (tm 81) (zi 9)) [],op 68 (.pick (tm 78) (.lit (.bool true)) (tm 82))] [1,3,68])
 (.cond (tm 68) (.seq (rg [op 2 (.mv (zi 7))] [2])
 .ret)
 .skip)))))))))
 (.seq (rg [oq 84 (.aB 4 (tm 1)) [86],ld 85 84,op 4 (.len false (tm 85))] [1,3,4])
 (.seq (.seq (rg [ao 87 0 1,ld 88 87,op 89 (ar .eql (tm 88) (zi 17))] [1,3,4,89])
 (.cond (tm 89) (rg [op 4 (.mv (zi 1))] [1,3,4])
 .skip))
 (.seq (.seq (rg [oq 90 (.aB 4 (tm 1)) [94],ld 91 90,op 93 (.sliceRow 1 (tm 91) none (some (tm 4)) none),op 5 (.call (.fn 182) [(tm 93),(zi 1)])] [1,3,4,5])
 (.seq (rg [oq 96 (ar .neq (tm 5) (zi 0)) [96]] [1,3,4,5,96])
 (.cond (tm 96) (.seq (rg [oq 2 (.mv (tm 5)) [97]] [2])
 .ret)
 .skip)))
 (.seq (.seq (rg [oq 98 (.aB 4 (tm 1)) [102],ld 99 98,op 101 (.sliceRow 1 (tm 99) (some (tm 4)) none none),op 6 (.call (.fn 182) [(tm 101),(zi 2)])] [1,3,6])
 (.seq (rg [oq 104 (ar .neq (tm 6) (zi 0)) [104]] [1,3,6,104])
 (.cond (tm 104) (.seq (rg [oq 2 (.mv (tm 6)) [105]] [2])
 .ret)
 .skip)))
 (.seq (.seq (rg [ao 106 6 1,ld 107 106,op 108 (.len false (tm 107)),op 109 (.mv (zi 0))] [1,3,108,109])
 (.block 1 (.loop zk)))
 (.seq (.seq (rg [oq 119 (.aB 0 (tm 1)) [131],ld 120 119,op 122 (ar .neq (tm 120) (zi 11)),gt 123 122 (.aB 6 (tm 3)) [],gt 124 122 (l1 (tm 123)) [],op 126 (.pick (tm 122) (tm 124) (.lit (.bool false))),gt 127 126 (.aB 6 (tm 1)) [],gt 128 126 (l1 (tm 127)) [],gt 129 126 (.len false (tm 128)) [],gt 130 126 (ar .eql (tm 129) (zi 0)) [],op 131 (.pick (tm 126) (tm 130) (.lit (.bool false)))] [131])
 (.cond (tm 131) (.seq (rg [op 2 (.mv (zi 7))] [2])
 .ret)
 .skip))
 (.seq (rg [op 2 (.mv (zi 0))] [2])
 .ret)))))))))))⟩
theorem H6:Good Tryz.prog (174,Bk):=mkK Z0 Tryz.func174 (by kernel_rfl)
noncomputable def JH:aF:=cZ Tryz.prog Z0 Tryz.f175
theorem H7:Good Tryz.prog (175,JH):=mkC Z0 Tryz.func175 (by kernel_rfl)
def Dn:aF:=⟨5,1,[.tmp 2],
 (.seq (rg [op 2 (.mv (tm 2))] [0])
 (.seq (rg [oq 2 (.call (.fn 179) [(tm 0),(.lit (.int .u8 65)),(.lit (.int .u8 90)),(.lit (.bool false))]) [4]] [2])
 .ret))⟩
theorem H8:Good Tryz.prog (176,Dn):=mkK Z0 Tryz.func176 (by kernel_rfl)
def mF:aK:=
 (.seq (.seq (rg [oq 6 (.len false (tm 0)) [7],op 7 (ar .lss (tm 3) (tm 6))] [0,3,7])
 (.cond (tm 7) .skip
 (.exit 0)))
 (.seq (.block 1 (.seq (.seq (rg [oq 12 (.aj 1 (tm 0) (tm 3)) [15],ld 13 12,op 14 (.call (.fn 135) [(tm 13)]),op 15 (.not (tm 14))] [0,3,15])
 (.cond (tm 15) (.seq (rg [op 2 (.mv (zi 4))] [2])
 .ret)
 .skip))
 (.seq (dr [oq 16 (.mv (tm 0)) [0],oq 17 (.mv (tm 3)) [3],oq 18 (.sliceRow 1 (tm 16) none (some (tm 17)) none) [16,17],oq 19 (.mv (tm 0)) [0],oq 20 (.mv (tm 3)) [3],oq 21 (.aj 1 (tm 19) (tm 20)) [19,20],lq 22 21,oq 23 (.call (.fn 122) [(tm 18),(tm 22)]) [18,22]] [0,0,3,0,0,24,56,127] [0,3,23])
 (.cond (tm 23) (.seq (rg [op 2 (.mv (zi 5))] [2])
 .ret)
 .skip))))
 (rg [oq 8 (.mv (tm 3)) [9],op 3 (ar .add (tm 8) (zi 1))] [0,3])))
def zD:aF:=⟨24,1,[.tmp 2],
 (.seq (rg [op 2 (.mv (tm 2))] [0])
 (.seq (.seq (rg [op 3 (.mv (zi 0))] [0,3])
 (.block 0 (.loop mF)))
 (.seq (rg [op 2 (.mv (zi 0))] [2])
 .ret)))⟩
theorem H9:Good Tryz.prog (177,zD):=mkK Z0 Tryz.func177 (by kernel_rfl)
def uk:aF:=⟨12,1,[.tmp 2],
 (.seq (rg [oq 1 (.box (tm 0)) [2]] [1])
 (.seq (.seq (rg [oq 4 (.load true 6 (tm 1)) [5],op 3 (.call (.fn 71) [(tm 4)])] [1,3])
 (.seq (rg [oq 7 (ar .neq (tm 3) (zi 0)) [7]] [1,3,7])
 (.cond (tm 7) (.seq (rg [oq 2 (.mv (tm 3)) [8]] [2])
 .ret)
 .skip)))
 (.seq (.seq (rg [op 9 (.load true 6 (tm 1)),op 10 (.call (.fn 204) [(tm 9)]),op 11 (.not (tm 10))] [11])
 (.cond (tm 11) (.seq (rg [op 2 (.mv (zi 1))] [2])
 .ret)
 .skip))
 (.seq (rg [op 2 (.mv (zi 0))] [2])
 .ret))))⟩
theorem Ia:Good Tryz.prog (178,uk):=mkK Z0 Tryz.func178 (by kernel_rfl)
def gR:aK:=
 (.seq (.seq (rg [oq 38 (.len true (tm 0)) [39],op 39 (ar .lss (tm 9) (tm 38))] [0,9,39])
 (.cond (tm 39) .skip
 (.exit 0)))
 (.seq (.block 1 (.seq (rg [oq 10 (.indexStr (tm 0) (tm 9)) [44]] [0,9,10])
 (.seq (rg [oq 47 (ar .geq (tm 10) (.lit (.int .u8 97))) [71],gt 48 47 (.mv (tm 10)) [],gt 49 47 (ar .leq (tm 48) (.lit (.int .u8 122))) [],op 51 (.pick (tm 47) (tm 49) (.lit (.bool false))),gf 52 51 (.mv (tm 10)) [],gf 53 51 (ar .geq (tm 52) (.lit (.int .u8 65))) [],gf 54 51 (.mv (tm 53)) [],gt 55 54 (.mv (tm 10)) [],gt 56 54 (ar .leq (tm 55) (.lit (.int .u8 90))) [],gf 57 51 (.pick (tm 54) (tm 56) (.lit (.bool false))) [],op 59 (.pick (tm 51) (.lit (.bool true)) (tm 57)),gf 60 59 (.mv (tm 10)) [],gf 61 59 (ar .geq (tm 60) (.lit (.int .u8 48))) [],gf 62 59 (.mv (tm 61)) [],gt 63 62 (.mv (tm 10)) [],gt 64 62 (ar .leq (tm 63) (.lit (.int .u8 57))) [],gf 65 59 (.pick (tm 62) (tm 64) (.lit (.bool false))) [],op 67 (.pick (tm 59) (.lit (.bool true)) (tm 65)),gf 68 67 (.mv (tm 10)) [],gf 69 67 (ar .eql (tm 68) (.lit (.int .u8 95))) [],op 70 (.pick (tm 67) (.lit (.bool true)) (tm 69)),op 71 (.not (tm 70))] [0,9,71])
 (.cond (tm 71) (.seq (rg [op 8 (.mv (.lit (.bool false)))] [8])
 .ret)
 .skip))))
 (rg [oq 40 (.mv (tm 9)) [41],op 9 (ar .add (tm 40) (zi 1))] [0,9])))
def iu:aF:=⟨72,4,[.tmp 8],
 (.seq (rg [op 8 (.mv (tm 8))] [0,1,2,3])
 (.seq (.seq (rg [oq 12 (.len true (tm 0)) [35],op 13 (.call (.fn 157) [(tm 12),(zi 1),(zi 12)]),op 15 (.not (tm 13)),gf 16 15 (.mv (tm 0)) [],gf 17 15 (.indexStr (tm 16) (zi 0)) [],gf 18 15 (.mv (tm 1)) [],gf 19 15 (ar .geq (tm 17) (tm 18)) [],gf 20 15 (.mv (tm 19)) [],gt 21 20 (.mv (tm 0)) [],gt 22 20 (.indexStr (tm 21) (zi 0)) [],gt 23 20 (.mv (tm 2)) [],gt 24 20 (ar .leq (tm 22) (tm 23)) [],gf 25 15 (.pick (tm 20) (tm 24) (.lit (.bool false))) [],gf 26 15 (.mv (tm 25)) [],gf 27 26 (.mv (tm 3)) [],gf 28 26 (.mv (tm 27)) [],gt 29 28 (.mv (tm 0)) [],gt 30 28 (.indexStr (tm 29) (zi 0)) [],gt 31 28 (ar .eql (tm 30) (.lit (.int .u8 95))) [],gf 32 26 (.pick (tm 28) (tm 31) (.lit (.bool false))) [],gf 33 15 (.pick (tm 26) (.lit (.bool true)) (tm 32)) [],gf 34 15 (.not (tm 33)) [],op 35 (.pick (tm 15) (.lit (.bool true)) (tm 34))] [0,35])
 (.cond (tm 35) (.seq (rg [op 8 (.mv (.lit (.bool false)))] [8])
 .ret)
 .skip))
 (.seq (.seq (rg [op 9 (.mv (zi 0))] [0,9])
 (.block 0 (.loop gR)))
 (.seq (rg [op 8 (.mv (.lit (.bool true)))] [8])
 .ret))))⟩
theorem Ib:Good Tryz.prog (179,iu):=mkK Z0 Tryz.func179 (by kernel_rfl)
def Dp:aF:=⟨2,0,[.tmp 0],
 (.seq (rg [op 0 (.mv (tm 0))] [])
 (.seq (rg [oq 0 (.buildSlice 1 25 [(.str [])] [(0,(.lit (.str [102,117,110]))),(1,(.lit (.str [108,101,116]))),(2,(.lit (.str [114,101,99]))),(3,(.lit (.str [105,110]))),(4,(.lit (.str [105,102]))),(5,(.lit (.str [116,104,101,110]))),(6,(.lit (.str [101,108,115,101]))),(7,(.lit (.str [109,97,116,99,104]))),(8,(.lit (.str [100,111]))),(9,(.lit (.str [104,97,110,100,108,101]))),(10,(.lit (.str [115,104,97,108,108,111,119]))),(11,(.lit (.str [110,97,109,101,100]))),(12,(.lit (.str [109,97,115,107]))),(13,(.lit (.str [117,115,105,110,103]))),(14,(.lit (.str [99,108,111,115,101]))),(15,(.lit (.str [114,101,115,117,109,101]))),(16,(.lit (.str [100,114,111,112]))),(17,(.lit (.str [114,101,116,117,114,110]))),(18,(.lit (.str [116,114,117,101]))),(19,(.lit (.str [102,97,108,115,101]))),(20,(.lit (.str [100,97,116,97]))),(21,(.lit (.str [101,102,102,101,99,116]))),(22,(.lit (.str [111,110,99,101]))),(23,(.lit (.str [100,101,102]))),(24,(.lit (.str [109,97,105,110])))]) [1]] [0])
 .ret))⟩
theorem Ic:Good Tryz.prog (180,Dp):=mkK Z0 Tryz.func180 (by kernel_rfl)
def zJ:aF:=⟨115,1,[.tmp 2],
 (.seq (rg [oq 1 (.box (tm 0)) [2]] [1])
 (.seq (rg [oq 3 (.call (.fn 205) []) [8]] [1,3])
 (.seq (.seq (rg [oq 9 (.aB 0 (tm 1)) [15],ld 10 9,op 12 (.len false (tm 3)),op 13 (ar .sub (tm 12) (zi 1)),op 14 (.call (.fn 157) [(tm 10),(zi 0),(tm 13)]),op 15 (.not (tm 14))] [1,3,15])
 (.cond (tm 15) (.seq (rg [op 2 (.mv (zi 1))] [2])
 .ret)
 .skip))
 (.seq (rg [oq 17 (.aB 0 (tm 1)) [20],ld 18 17,op 19 (.aj 7 (tm 3) (tm 18)),op 20 (.load true 7 (tm 19)),op 4 (.alloc z7),on (.store 7 (tm 4) (tm 20))] [1,4])
 (.seq (.seq (rg [ao 21 1 1,ld 22 21,ao 23 5 4,ld 24 23,ao 25 6 4,ld 26 25,op 27 (.call (.fn 157) [(tm 22),(tm 24),(tm 26)]),op 28 (.not (tm 27))] [1,4,28])
 (.cond (tm 28) (.seq (rg [op 2 (.mv (zi 1))] [2])
 .ret)
 .skip))
 (.seq (.seq (rg [oq 29 (.aB 2 (tm 1)) [42],ld 30 29,ao 31 0 4,ld 32 31,op 33 (.call (.fn 167) [(tm 30),(tm 32)]),op 35 (.not (tm 33)),gf 36 35 (.aB 3 (tm 1)) [],gf 37 35 (l1 (tm 36)) [],gf 38 35 (.aB 1 (tm 4)) [],gf 39 35 (l1 (tm 38)) [],gf 40 35 (.call (.fn 167) [(tm 37),(tm 39)]) [],gf 41 35 (.not (tm 40)) [],op 42 (.pick (tm 35) (.lit (.bool true)) (tm 41))] [1,4,42])
 (.cond (tm 42) (.seq (rg [op 2 (.mv (zi 4))] [2])
 .ret)
 .skip))
 (.seq (rg [oq 43 (.aB 4 (tm 1)) [65],ld 44 43,op 45 (.len false (tm 44)),ao 46 2 4,ld 47 46,op 49 (ar .eql (tm 45) (tm 47)),gf 50 49 (.aB 0 (tm 1)) [],gf 51 49 (l1 (tm 50)) [],gf 52 49 (ar .eql (tm 51) (zi 17)) [],gf 53 49 (.mv (tm 52)) [],gt 54 53 (.aB 4 (tm 1)) [],gt 55 53 (l1 (tm 54)) [],gt 56 53 (.len false (tm 55)) [],gt 57 53 (ar .geq (tm 56) (zi 1)) [],gf 58 49 (.pick (tm 53) (tm 57) (.lit (.bool false))) [],gf 59 49 (.mv (tm 58)) [],gt 60 59 (.aB 4 (tm 1)) [],gt 61 59 (l1 (tm 60)) [],gt 62 59 (.len false (tm 61)) [],gt 63 59 (ar .leq (tm 62) (zi 13)) [],gf 64 49 (.pick (tm 59) (tm 63) (.lit (.bool false))) [],op 5 (.pick (tm 49) (.lit (.bool true)) (tm 64))] [1,4,5])
 (.seq (rg [oq 66 (.aB 5 (tm 1)) [82],ld 67 66,op 68 (.len false (tm 67)),ao 69 3 4,ld 70 69,op 72 (ar .eql (tm 68) (tm 70)),gf 73 72 (.aB 0 (tm 1)) [],gf 74 72 (l1 (tm 73)) [],gf 75 72 (ar .eql (tm 74) (zi 10)) [],gf 76 72 (.mv (tm 75)) [],gt 77 76 (.aB 5 (tm 1)) [],gt 78 76 (l1 (tm 77)) [],gt 79 76 (.len false (tm 78)) [],gt 80 76 (ar .leq (tm 79) (zi 4)) [],gf 81 72 (.pick (tm 76) (tm 80) (.lit (.bool false))) [],op 6 (.pick (tm 72) (.lit (.bool true)) (tm 81))] [1,4,5,6])
 (.seq (.seq (rg [oq 85 (.not (tm 5)) [105],gf 86 85 (.mv (tm 6)) [],gf 87 85 (.not (tm 86)) [],op 89 (.pick (tm 85) (.lit (.bool true)) (tm 87)),gf 90 89 (.aB 4 (tm 4)) [],gf 91 89 (l1 (tm 90)) [],gf 92 89 (.not (tm 91)) [],gf 93 89 (.mv (tm 92)) [],gt 94 93 (.aB 6 (tm 1)) [],gt 95 93 (l1 (tm 94)) [],gt 96 93 (.len false (tm 95)) [],gt 97 93 (ar .gtr (tm 96) (zi 0)) [],gf 98 89 (.pick (tm 93) (tm 97) (.lit (.bool false))) [],op 100 (.pick (tm 89) (.lit (.bool true)) (tm 98)),gf 101 100 (.aB 6 (tm 1)) [],gf 102 100 (l1 (tm 101)) [],gf 103 100 (.len false (tm 102)) [],gf 104 100 (ar .gtr (tm 103) (zi 9)) [],op 105 (.pick (tm 100) (.lit (.bool true)) (tm 104))] [1,4,105])
 (.cond (tm 105) (.seq (rg [op 2 (.mv (zi 7))] [2])
 .ret)
 .skip))
 (.seq (.seq (rg [oq 106 (.load true 7 (tm 1)) [107],op 7 (.call (.fn 206) [(tm 106)])] [1,4,7])
 (.seq (rg [oq 109 (ar .neq (tm 7) (zi 0)) [109]] [1,4,7,109])
 (.cond (tm 109) (.seq (rg [oq 2 (.mv (tm 7)) [110]] [2])
 .ret)
 .skip)))
 (.seq (.seq (rg [ao 111 4 4,ld 112 111] [1,112])
 (.cond (tm 112) (.seq (rg [oq 113 (.load true 7 (tm 1)) [114],op 2 (.call (.fn 207) [(tm 113)])] [2])
 .ret)
 .skip))
 (.seq (rg [op 2 (.mv (zi 0))] [2])
 .ret))))))))))))⟩
theorem Ie:Good Tryz.prog (181,zJ):=mkK Z0 Tryz.func181 (by kernel_rfl)
def m5:aK:=
 (.seq (rg [op 10 (ar .lss (tm 9) (tm 8))] [0,1,7,8,9,10])
 (.seq (.cond (tm 10) .skip
 (.exit 0))
 (.seq (.block 1 (.seq (rg [oq 12 (.aj 1 (tm 7) (tm 9)) [13],ld 13 12,op 5 (.mv (tm 9)),op 6 (.mv (tm 13))] [0,1,5,6,7,8,9])
 (.block 2 (.seq (rg [oq 17 (.call (.fn 143) [(tm 6),(tm 1)]) [18],op 14 (.not (tm 17))] [0,1,5,6,7,8,9,14])
 (.cond (tm 14) (.seq (rg [op 4 (.mv (zi 4))] [4])
 .ret)
 (.seq (rg [oq 22 (.sliceRow 1 (tm 0) none (some (tm 5)) none) [24],op 19 (.call (.fn 111) [(tm 22),(tm 6)])] [0,1,7,8,9,19])
 (.cond (tm 19) (.seq (rg [op 4 (.mv (zi 5))] [4])
 .ret)
 .skip)))))))
 (rg [oq 9 (ar .add (tm 9) (zi 1)) [25]] [0,1,7,8,9]))))
def Bl:aF:=⟨26,2,[.tmp 4],
 (.seq (rg [op 4 (.mv (tm 4))] [0,1])
 (.seq (.seq (rg [op 7 (.mv (tm 0)),op 8 (.len false (tm 7)),op 9 (.mv (zi 0))] [0,1,7,8,9])
 (.block 0 (.loop m5)))
 (.seq (rg [op 4 (.mv (zi 0))] [4])
 .ret)))⟩
theorem Ig:Good Tryz.prog (182,Bl):=mkK Z0 Tryz.func182 (by kernel_rfl)
def qv:aK:=
 (.seq (rg [op 9 (ar .lss (tm 8) (tm 7))] [6,7,8,9])
 (.seq (.cond (tm 9) .skip
 (.exit 0))
 (.seq (.block 1 (.seq (rg [op 10 (.aj 6 (tm 6) (tm 8)),op 11 (.load true 6 (tm 10)),op 4 (.alloc z6),on (.store 6 (tm 4) (tm 11))] [4,6,7,8])
 (.seq (.seq (rg [oq 12 (.load true 6 (tm 4)) [13],op 5 (.call (.fn 60) [(tm 12)])] [4,5,6,7,8])
 (.seq (rg [oq 15 (ar .neq (tm 5) (zi 0)) [15]] [4,5,6,7,8,15])
 (.cond (tm 15) (.seq (rg [oq 2 (.mv (tm 5)) [16]] [2])
 .ret)
 .skip)))
 (.seq (rg [op 17 (.load true 6 (tm 4)),op 18 (.call (.fn 208) [(tm 17)]),op 19 (.not (tm 18))] [6,7,8,19])
 (.cond (tm 19) (.seq (rg [op 2 (.mv (zi 1))] [2])
 .ret)
 .skip)))))
 (rg [oq 8 (ar .add (tm 8) (zi 1)) [20]] [6,7,8]))))
def Bm:aF:=⟨21,1,[.tmp 2],
 (.seq (rg [op 2 (.mv (tm 2))] [0])
 (.seq (.seq (rg [op 6 (.mv (tm 0)),op 7 (.len false (tm 6)),op 8 (.mv (zi 0))] [6,7,8])
 (.block 0 (.loop qv)))
 (.seq (rg [op 2 (.mv (zi 0))] [2])
 .ret)))⟩
theorem Ih:Good Tryz.prog (183,Bm):=mkK Z0 Tryz.func183 (by kernel_rfl)
def Dq:aF:=⟨10,1,[.tmp 2],
 (.seq (rg [op 2 (.mv (tm 2))] [0])
 (.seq (rg [oq 5 (.call (.fn 209) [(tm 0),(zi 2)]) [9],gt 6 5 (.mv (tm 0)) [],gt 7 5 (.call (.fn 210) [(tm 6)]) [],gt 8 5 (.not (tm 7)) [],op 2 (.pick (tm 5) (tm 8) (.lit (.bool false)))] [2])
 .ret))⟩
theorem Ii:Good Tryz.prog (184,Dq):=mkK Z0 Tryz.func184 (by kernel_rfl)
def Dr:aF:=⟨5,1,[.tmp 2],
 (.seq (rg [op 2 (.mv (tm 2))] [0])
 (.seq (rg [oq 2 (.call (.fn 209) [(tm 0),(zi 3)]) [4]] [2])
 .ret))⟩
theorem Ij:Good Tryz.prog (185,Dr):=mkK Z0 Tryz.func185 (by kernel_rfl)
noncomputable def JI:aF:=cZ Tryz.prog Z0 Tryz.f186
theorem Ik:Good Tryz.prog (186,JI):=mkC Z0 Tryz.func186 (by kernel_rfl)
noncomputable def JJ:aF:=cZ Tryz.prog Z0 Tryz.f187
theorem Il:Good Tryz.prog (187,JJ):=mkC Z0 Tryz.func187 (by kernel_rfl)
noncomputable def JK:aF:=cZ Tryz.prog Z0 Tryz.f188
theorem Im:Good Tryz.prog (188,JK):=mkC Z0 Tryz.func188 (by kernel_rfl)
noncomputable def JL:aF:=cZ Tryz.prog Z0 Tryz.f189
theorem Io:Good Tryz.prog (189,JL):=mkC Z0 Tryz.func189 (by kernel_rfl)
def Ax:aF:=⟨8,2,[],
 (.seq (rg [op 2 (.box (tm 0))] [1,2])
 (.seq (rg [op 3 (.alloc [.cq])] [1,2,3])
 (.seq (rg [op 4 (.mkFunc 192 [] [(tm 2),(tm 3)]),on (.store 1 (tm 3) (tm 4))] [1,3])
 (rg [ld 5 3,op 6 (.load true 7 (tm 1)),op 7 (.call (.val (tm 5)) [(tm 6)])] []))))⟩
theorem Ip:Good Tryz.prog (191,Ax):=mkK Z0 Tryz.func191 (by kernel_rfl)
def qw:aK:=
 (.seq (rg [op 17 (ar .lss (tm 16) (tm 15))] [2,3,14,15,16,17])
 (.seq (.cond (tm 17) .skip
 (.exit 0))
 (.seq (.block 1 (.seq (rg [op 18 (.aj 7 (tm 14) (tm 16)),op 19 (.load true 7 (tm 18)),op 6 (.alloc z7a),on (.store 7 (tm 6) (tm 19))] [2,3,6,14,15,16])
 (.seq (rg [ld 20 2,op 21 (.load true 7 (tm 6)),op 22 (.call (.val (tm 20)) [(tm 21)]),op 23 (.not (tm 22))] [2,3,14,15,16,23])
 (.cond (tm 23) (.seq (rg [op 4 (.mv (.lit (.bool false)))] [4])
 .ret)
 .skip))))
 (rg [oq 16 (ar .add (tm 16) (zi 1)) [24]] [2,3,14,15,16]))))
def qx:aK:=
 (.seq (rg [op 29 (ar .lss (tm 28) (tm 27))] [2,26,27,28,29])
 (.seq (.cond (tm 29) .skip
 (.exit 2))
 (.seq (.block 3 (.seq (rg [op 30 (.aj 9 (tm 26) (tm 28)),op 31 (.load true 9 (tm 30)),op 8 (.alloc z9a),on (.store 9 (tm 8) (tm 31))] [2,8,26,27,28])
 (.seq (rg [ld 32 2,ao 33 2 8,op 34 (.load true 7 (tm 33)),op 35 (.call (.val (tm 32)) [(tm 34)]),op 36 (.not (tm 35))] [2,26,27,28,36])
 (.cond (tm 36) (.seq (rg [op 4 (.mv (.lit (.bool false)))] [4])
 .ret)
 .skip))))
 (rg [oq 28 (ar .add (tm 28) (zi 1)) [37]] [2,26,27,28]))))
def vO:aF:=⟨38,3,[.tmp 4],
 (.seq (rg [oq 3 (.box (tm 0)) [4]] [1,2,3])
 (.seq (.seq (rg [ld 9 1,op 10 (.load true 7 (tm 3)),op 11 (.call (.val (tm 9)) [(tm 10)]),op 12 (.not (tm 11))] [2,3,12])
 (.cond (tm 12) (.seq (rg [op 4 (.mv (.lit (.bool false)))] [4])
 .ret)
 .skip))
 (.seq (.seq (rg [ao 13 5 3,ld 14 13,op 15 (.len false (tm 14)),op 16 (.mv (zi 0))] [2,3,14,15,16])
 (.block 0 (.loop qw)))
 (.seq (.seq (rg [ao 25 6 3,ld 26 25,op 27 (.len false (tm 26)),op 28 (.mv (zi 0))] [2,26,27,28])
 (.block 2 (.loop qx)))
 (.seq (rg [op 4 (.mv (.lit (.bool true)))] [4])
 .ret)))))⟩
theorem Iq:Good Tryz.prog (192,vO):=mkK Z0 Tryz.func192 (by kernel_rfl)
def th:aK:=
 (.seq (.seq (rg [oq 9 (.len false (tm 1)) [10],op 10 (ar .lss (tm 6) (tm 9))] [1,2,5,6,10])
 (.cond (tm 10) .skip
 (.exit 0)))
 (.seq (.block 1 (dr [oq 13 (.mv (tm 5)) [5],oq 14 (.mv (tm 1)) [1],oq 15 (.mv (tm 6)) [6],oq 16 (.aj 6 (tm 14) (tm 15)) [14,15],oq 17 (.load true 6 (tm 16)) [16],aq 18 6 2,lq 19 18,aq 20 7 2,lq 21 20,oq 22 (.build [(.int .i64 0),(.int .i64 0),(.str []),(.slice []),(.slice []),(.int .i64 0),(.slice []),(.slice [])] [(0,6,(tm 17)),(6,1,(tm 19)),(7,1,(tm 21))]) [17,19,21],oq 23 (.buildSlice 8 1 z8 [(0,(tm 22))]) [22],oq 24 (.append 8 136 (tm 13) (tm 23)) [13,23],oq 5 (.mv (tm 24)) [24]] [0,0,0,6,14,0,32,0,128,510,1022,2047,4095] [1,2,5,6]))
 (rg [oq 11 (.mv (tm 6)) [12],op 6 (ar .add (tm 11) (zi 1))] [1,2,5,6])))
def zX:aF:=⟨26,2,[.tmp 4],
 (.seq (rg [oq 2 (.box (tm 0)) [4]] [1,2])
 (.seq (rg [op 5 (.newrow 8)] [1,2,5])
 (.seq (.seq (rg [op 6 (.mv (zi 0))] [1,2,5,6])
 (.block 0 (.loop th)))
 (.seq (rg [oq 4 (.mv (tm 5)) [25]] [4])
 .ret))))⟩
theorem Ir:Good Tryz.prog (195,zX):=mkK (fun t=>t==5||t==22) Tryz.func195 (by kernel_rfl)
def tw:aK:=
 (.seq (.seq (rg [oq 20 (.aB 3 (tm 1)) [23],ld 21 20,op 22 (.len false (tm 21)),op 23 (ar .lss (tm 4) (tm 22))] [1,3,4,23])
 (.cond (tm 23) .skip
 (.exit 0)))
 (.seq (.block 1 (rg [oq 26 (.mv (tm 3)) [33],ao 27 3 1,ld 28 27,op 30 (.aj 6 (tm 28) (tm 4)),op 31 (.load true 6 (tm 30)),op 32 (.call (.fn 196) [(tm 31)]),op 3 (.append 1 16 (tm 26) (tm 32))] [1,3,4]))
 (rg [oq 24 (.mv (tm 4)) [25],op 4 (ar .add (tm 24) (zi 1))] [1,3,4])))
def xx:aF:=⟨35,1,[.tmp 2],
 (.seq (rg [oq 1 (.box (tm 0)) [2]] [1])
 (.seq (rg [op 3 (.newrow 1)] [1,3])
 (.seq (.seq (rg [ao 5 0 1,ld 6 5,op 7 (ar .eql (tm 6) (zi 5))] [1,3,7])
 (.cond (tm 7) (rg [oq 8 (.mv (tm 3)) [10],op 9 (.buildSlice 1 1 [(.str [])] [(0,(.lit (.str [])))]),op 3 (.append 1 16 (tm 8) (tm 9))] [1,3])
 .skip))
 (.seq (.seq (rg [ao 11 0 1,ld 12 11,op 13 (ar .eql (tm 12) (zi 6))] [1,3,13])
 (.cond (tm 13) (rg [oq 14 (.mv (tm 3)) [18],ao 15 2 1,ld 16 15,op 17 (.buildSlice 1 1 [(.str [])] [(0,(tm 16))]),op 3 (.append 1 16 (tm 14) (tm 17))] [1,3])
 .skip))
 (.seq (.seq (rg [op 4 (.mv (zi 0))] [1,3,4])
 (.block 0 (.loop tw)))
 (.seq (rg [oq 2 (.mv (tm 3)) [34]] [2])
 .ret))))))⟩
theorem Is:Good Tryz.prog (196,xx):=mkK (fun t=>t==3) Tryz.func196 (by kernel_rfl)
def gS:aK:=
 (.seq (rg [op 9 (ar .lss (tm 8) (tm 7))] [0,1,7,8,9])
 (.seq (.cond (tm 9) .skip
 (.exit 0))
 (.seq (.block 1 (.seq (rg [oq 5 (.mv (tm 8)) [10]] [0,1,5,7,8])
 (.seq (rg [oq 14 (.aj 6 (tm 0) (tm 5)) [16],op 15 (.load true 6 (tm 14)),op 16 (.call (.val (tm 1)) [(tm 15)])] [0,1,5,7,8,16])
 (.cond (tm 16) (.seq (rg [oq 4 (.mv (tm 5)) [17]] [4])
 .ret)
 .skip))))
 (rg [oq 8 (ar .add (tm 8) (zi 1)) [18]] [0,1,7,8]))))
def vP:aF:=⟨19,2,[.tmp 4],
 (.seq (rg [op 4 (.mv (tm 4))] [0,1])
 (.seq (.seq (rg [oq 7 (.len false (tm 0)) [8],op 8 (.mv (zi 0))] [0,1,7,8])
 (.block 0 (.loop gS)))
 (.seq (rg [op 4 (.mv (zi (-1)))] [4])
 .ret)))⟩
theorem It:Good Tryz.prog (197,vP):=mkK Z0 Tryz.func197 (by kernel_rfl)
def Dt:aF:=⟨15,3,[.tmp 6],
 (.seq (rg [op 6 (.mv (tm 6))] [0,1,2])
 (.seq (rg [oq 10 (ar .leq (tm 1) (tm 0)) [14],gt 11 10 (.mv (tm 0)) [],gt 12 10 (.mv (tm 2)) [],gt 13 10 (ar .leq (tm 11) (tm 12)) [],op 6 (.pick (tm 10) (tm 13) (.lit (.bool false)))] [6])
 .ret))⟩
theorem Iu:Good Tryz.prog (198,Dt):=mkK Z0 Tryz.func198 (by kernel_rfl)
def xP:aF:=⟨11,1,[.tmp 2,.tmp 3],
 (.seq (rg [op 3 (.mv (tm 3))] [0])
 (.seq (.seq (rg [op 4 (.mv (tm 0))] [4])
 (.block 0 (.seq (rg [oq 5 (ar .eql (tm 4) (.lit (.str [73,110,116]))) [6]] [4,5])
 (.cond (tm 5) (.seq (rg [op 2 (.mv (zi 2)),op 3 (.mv (.lit (.bool true)))] [2,3])
 .ret)
 (.seq (rg [oq 7 (ar .eql (tm 4) (.lit (.str [66,111,111,108]))) [8]] [4,7])
 (.cond (tm 7) (.seq (rg [op 2 (.mv (zi 3)),op 3 (.mv (.lit (.bool true)))] [2,3])
 .ret)
 (.seq (rg [oq 9 (ar .eql (tm 4) (.lit (.str [85,110,105,116]))) [10]] [9])
 (.cond (tm 9) (.seq (rg [op 2 (.mv (zi 4)),op 3 (.mv (.lit (.bool true)))] [2,3])
 .ret)
 .skip))))))))
 (.seq (rg [op 2 (.mv (zi 0)),op 3 (.mv (.lit (.bool false)))] [2,3])
 .ret)))⟩
theorem Iv:Good Tryz.prog (199,xP):=mkK Z0 Tryz.func199 (by kernel_rfl)
def kL:aK:=
 (.seq (rg [op 9 (ar .lss (tm 8) (tm 7))] [1,6,7,8,9])
 (.seq (.cond (tm 9) .skip
 (.exit 0))
 (.seq (.block 1 (.seq (rg [op 10 (.aj 2 (tm 6) (tm 8)),op 11 (.load true 2 (tm 10)),op 4 (.alloc [(.str []),(.int .i64 0)]),on (.store 2 (tm 4) (tm 11))] [1,4,6,7,8])
 (.block 2 (.seq (rg [oq 13 (.aB 0 (tm 4)) [16],ld 14 13,op 15 (.call (.fn 143) [(tm 14),(zi 2)]),op 12 (.not (tm 15))] [1,4,6,7,8,12])
 (.cond (tm 12) (.seq (rg [op 2 (.mv (zi 4))] [2])
 .ret)
 (.seq (rg [oq 18 (.aB 1 (tm 4)) [21],ld 19 18,op 20 (.call (.fn 198) [(tm 19),(zi 0),(zi 999999999)]),op 17 (.not (tm 20))] [1,6,7,8,17])
 (.cond (tm 17) (.seq (rg [op 2 (.mv (zi 1))] [2])
 .ret)
 .skip)))))))
 (rg [oq 8 (ar .add (tm 8) (zi 1)) [22]] [1,6,7,8]))))
def vQ:aF:=⟨27,1,[.tmp 2],
 (.seq (rg [oq 1 (.box (tm 0)) [2]] [1])
 (.seq (.seq (rg [ao 5 0 1,ld 6 5,op 7 (.len false (tm 6)),op 8 (.mv (zi 0))] [1,6,7,8])
 (.block 0 (.loop kL)))
 (.seq (.seq (rg [ao 23 1 1,ld 24 23,op 25 (.call (.fn 198) [(tm 24),(zi (-1)),(zi 999999999)]),op 26 (.not (tm 25))] [26])
 (.cond (tm 26) (.seq (rg [op 2 (.mv (zi 1))] [2])
 .ret)
 .skip))
 (.seq (rg [op 2 (.mv (zi 0))] [2])
 .ret))))⟩
theorem Iw:Good Tryz.prog (200,vQ):=mkK Z0 Tryz.func200 (by kernel_rfl)
def tQ:aK:=
 (.seq (rg [op 9 (ar .lss (tm 8) (tm 7))] [0,1,7,8,9])
 (.seq (.cond (tm 9) .skip
 (.exit 0))
 (.seq (.block 1 (.seq (rg [oq 5 (.mv (tm 8)) [10]] [0,1,5,7,8])
 (.seq (rg [oq 14 (.aj 3 (tm 0) (tm 5)) [16],op 15 (.load true 3 (tm 14)),op 16 (.call (.val (tm 1)) [(tm 15)])] [0,1,5,7,8,16])
 (.cond (tm 16) (.seq (rg [oq 4 (.mv (tm 5)) [17]] [4])
 .ret)
 .skip))))
 (rg [oq 8 (ar .add (tm 8) (zi 1)) [18]] [0,1,7,8]))))
def Bn:aF:=⟨19,2,[.tmp 4],
 (.seq (rg [op 4 (.mv (tm 4))] [0,1])
 (.seq (.seq (rg [oq 7 (.len false (tm 0)) [8],op 8 (.mv (zi 0))] [0,1,7,8])
 (.block 0 (.loop tQ)))
 (.seq (rg [op 4 (.mv (zi (-1)))] [4])
 .ret)))⟩
theorem Ix:Good Tryz.prog (201,Bn):=mkK Z0 Tryz.func201 (by kernel_rfl)
noncomputable def JM:aF:=cZ Tryz.prog Z0 Tryz.f203
theorem Iy:Good Tryz.prog (203,JM):=mkC Z0 Tryz.func203 (by kernel_rfl)
def oY:aK:=
 (.seq (.seq (rg [oq 20 (.aB 4 (tm 1)) [24],ao 21 0 20,ld 22 21,op 23 (.len false (tm 22)),op 24 (ar .lss (tm 3) (tm 23))] [1,3,24])
 (.cond (tm 24) .skip
 (.exit 0)))
 (.seq (.block 1 (.seq (rg [oq 27 (.aB 4 (tm 1)) [34],ao 28 0 27,ld 29 28,op 31 (.aj 2 (tm 29) (tm 3)),ao 32 1 31,ld 33 32,op 34 (ar .neq (tm 33) (zi 0))] [1,3,34])
 (.cond (tm 34) (.seq (rg [op 2 (.mv (.lit (.bool false)))] [2])
 .ret)
 .skip)))
 (rg [oq 25 (.mv (tm 3)) [26],op 3 (ar .add (tm 25) (zi 1))] [1,3])))
def oZ:aK:=
 (.seq (.seq (rg [oq 36 (.aB 3 (tm 1)) [39],ld 37 36,op 38 (.len false (tm 37)),op 39 (ar .lss (tm 4) (tm 38))] [1,4,39])
 (.cond (tm 39) .skip
 (.exit 2)))
 (.seq (.block 3 (.seq (rg [oq 42 (.aB 3 (tm 1)) [48],ld 43 42,op 45 (.aj 6 (tm 43) (tm 4)),op 46 (.load true 6 (tm 45)),op 47 (.call (.fn 204) [(tm 46)]),op 48 (.not (tm 47))] [1,4,48])
 (.cond (tm 48) (.seq (rg [op 2 (.mv (.lit (.bool false)))] [2])
 .ret)
 .skip)))
 (rg [oq 40 (.mv (tm 4)) [41],op 4 (ar .add (tm 40) (zi 1))] [1,4])))
def lH:aF:=⟨49,1,[.tmp 2],
 (.seq (rg [oq 1 (.box (tm 0)) [2]] [1])
 (.seq (.seq (rg [oq 5 (.aB 0 (tm 1)) [18],ld 6 5,op 8 (ar .eql (tm 6) (zi 0)),gf 9 8 (.aB 0 (tm 1)) [],gf 10 8 (l1 (tm 9)) [],gf 11 8 (ar .eql (tm 10) (zi 5)) [],gf 12 8 (.mv (tm 11)) [],gt 13 12 (.aB 4 (tm 1)) [],gt 14 12 (.aB 1 (tm 13)) [],gt 15 12 (l1 (tm 14)) [],gt 16 12 (ar .neq (tm 15) (zi (-1))) [],gf 17 8 (.pick (tm 12) (tm 16) (.lit (.bool false))) [],op 18 (.pick (tm 8) (.lit (.bool true)) (tm 17))] [1,18])
 (.cond (tm 18) (.seq (rg [op 2 (.mv (.lit (.bool false)))] [2])
 .ret)
 .skip))
 (.seq (.seq (rg [op 3 (.mv (zi 0))] [1,3])
 (.block 0 (.loop oY)))
 (.seq (.seq (rg [op 4 (.mv (zi 0))] [1,4])
 (.block 2 (.loop oZ)))
 (.seq (rg [op 2 (.mv (.lit (.bool true)))] [2])
 .ret)))))⟩
theorem Iz:Good Tryz.prog (204,lH):=mkK Z0 Tryz.func204 (by kernel_rfl)
def CJ:aF:=⟨22,0,[.tmp 0],
 (.seq (rg [op 0 (.mv (tm 0))] [])
 (.seq (rg [oq 1 (.build z7 [(0,1,(zi 1))]) [21],op 2 (.build z7 [(5,1,(zi (-999999999))),(6,1,(zi 999999999))]),op 3 (.build z7 [(6,1,(zi 1))]),op 4 (.build z7 []),op 5 (.build z7 [(2,1,(zi 1)),(3,1,(zi 1))]),op 6 (.build z7 [(3,1,(zi 2))]),op 7 (.build z7 [(2,1,(zi 1)),(3,1,(zi 2))]),op 8 (.build z7 [(2,1,(zi 2)),(3,1,(zi 2))]),op 9 (.build z7 [(3,1,(zi 3))]),op 10 (.build z7 [(0,1,(zi 3)),(3,1,(zi 2))]),op 11 (.build z7 [(0,1,(zi 2))]),op 12 (.build z7 [(3,1,(zi 1)),(4,1,(.lit (.bool true)))]),op 13 (.build z7 [(0,1,(zi 1)),(3,1,(zi 1))]),op 14 (.build z7 [(0,1,(zi 1)),(1,1,(zi 1)),(3,1,(zi 1))]),op 15 (.build z7 [(0,1,(zi 2)),(3,1,(zi 1)),(4,1,(.lit (.bool true))),(6,1,(zi 1))]),op 16 (.build z7 [(0,1,(zi 2)),(2,1,(zi 1)),(3,1,(zi 1)),(4,1,(.lit (.bool true)))]),op 17 (.build z7 [(0,1,(zi 2)),(3,1,(zi 1))]),op 18 (.build z7 [(2,1,(zi 1)),(3,1,(zi 3))]),op 19 (.build z7 [(0,1,(zi 1)),(3,1,(zi 1))]),op 20 (.build z7 [(0,1,(zi 1))]),op 0 (.buildSlice 7 20 z7 [(0,(tm 1)),(1,(tm 2)),(2,(tm 3)),(3,(tm 4)),(4,(tm 5)),(5,(tm 6)),(6,(tm 7)),(7,(tm 8)),(8,(tm 9)),(9,(tm 10)),(10,(tm 11)),(11,(tm 12)),(12,(tm 13)),(13,(tm 14)),(14,(tm 15)),(15,(tm 16)),(16,(tm 17)),(17,(tm 18)),(18,(tm 19)),(19,(tm 20))])] [0])
 .ret))⟩
theorem IA:Good Tryz.prog (205,CJ):=mkK Z0 Tryz.func205 (by kernel_rfl)
def IB:aK:=
 (.seq (.seq (rg [oq 19 (.aB 4 (tm 1)) [22],ld 20 19,op 21 (.len false (tm 20)),op 22 (ar .lss (tm 4) (tm 21))] [1,4,22])
 (.cond (tm 22) .skip
 (.exit 0)))
 (.seq (.block 1 (.seq (.seq (rg [oq 25 (.aB 4 (tm 1)) [31],ld 26 25,op 28 (.aj 1 (tm 26) (tm 4)),ld 29 28,op 30 (.call (.fn 176) [(tm 29)]),op 31 (.not (tm 30))] [1,4,31])
 (.cond (tm 31) (.seq (rg [op 2 (.mv (zi 4))] [2])
 .ret)
 .skip))
 (.seq (dr [aq 32 4 1,lq 33 32,oq 34 (.mv (tm 4)) [4],oq 35 (.sliceRow 1 (tm 33) (some (zi 1)) (some (tm 34)) none) [33,34],aq 36 4 1,lq 37 36,oq 38 (.mv (tm 4)) [4],oq 39 (.aj 1 (tm 37) (tm 38)) [37,38],lq 40 39,oq 41 (.call (.fn 122) [(tm 35),(tm 40)]) [35,40]] [0,1,0,7,0,16,0,112,240,511] [1,4,41])
 (.cond (tm 41) (.seq (rg [op 2 (.mv (zi 5))] [2])
 .ret)
 .skip))))
 (rg [oq 23 (.mv (tm 4)) [24],op 4 (ar .add (tm 23) (zi 1))] [1,4])))
def zI:aF:=⟨42,1,[.tmp 2],
 (.seq (rg [oq 1 (.box (tm 0)) [2]] [1])
 (.seq (.seq (rg [ao 5 0 1,ld 6 5,op 7 (ar .neq (tm 6) (zi 17))] [1,7])
 (.cond (tm 7) (.seq (rg [oq 8 (.aB 4 (tm 1)) [10],ld 9 8,op 2 (.call (.fn 177) [(tm 9)])] [2])
 .ret)
 .skip))
 (.seq (.seq (rg [oq 11 (.aB 4 (tm 1)) [14],ld 12 11,op 13 (.sliceRow 1 (tm 12) none (some (zi 1)) none),op 3 (.call (.fn 177) [(tm 13)])] [1,3])
 (.seq (rg [oq 16 (ar .neq (tm 3) (zi 0)) [16]] [1,3,16])
 (.cond (tm 16) (.seq (rg [oq 2 (.mv (tm 3)) [17]] [2])
 .ret)
 .skip)))
 (.seq (.seq (rg [op 4 (.mv (zi 1))] [1,4])
 (.block 0 (.loop IB)))
 (.seq (rg [op 2 (.mv (zi 0))] [2])
 .ret)))))⟩
theorem IC:Good Tryz.prog (206,zI):=mkK Z0 Tryz.func206 (by kernel_rfl)
def sN:aF:=⟨25,1,[.tmp 2],
 (.seq (rg [oq 1 (.box (tm 0)) [2]] [1])
 (.seq (.seq (rg [oq 3 (.aB 0 (tm 1)) [16],ld 4 3,op 6 (ar .eql (tm 4) (zi 0)),gf 7 6 (.aB 0 (tm 1)) [],gf 8 6 (l1 (tm 7)) [],gf 9 6 (ar .eql (tm 8) (zi 5)) [],gf 10 6 (.mv (tm 9)) [],gt 11 10 (.aB 4 (tm 1)) [],gt 12 10 (.aB 1 (tm 11)) [],gt 13 10 (l1 (tm 12)) [],gt 14 10 (ar .geq (tm 13) (zi 0)) [],gf 15 6 (.pick (tm 10) (tm 14) (.lit (.bool false))) [],op 16 (.pick (tm 6) (.lit (.bool true)) (tm 15))] [1,16])
 (.cond (tm 16) (.seq (rg [op 2 (.mv (.lit (.bool false)))] [2])
 .ret)
 .skip))
 (.seq (.seq (rg [ao 17 4 1,ao 18 0 17,ld 19 18,op 20 (.call (.fn 215) [(tm 19),(.lit (.func 216 [] []))])] [1,20])
 (.cond (tm 20) (.seq (rg [op 2 (.mv (.lit (.bool false)))] [2])
 .ret)
 .skip))
 (.seq (rg [oq 21 (.aB 3 (tm 1)) [24],ld 22 21,op 23 (.call (.fn 161) [(tm 22),(.lit (.func 217 [] []))]),op 2 (.not (tm 23))] [2])
 .ret))))⟩
theorem ID:Good Tryz.prog (208,sN):=mkK Z0 Tryz.func208 (by kernel_rfl)
def kM:aK:=
 (.seq (rg [op 23 (.nextStr (tm 22)),op 24 (.extract (tm 23) 0)] [22,23,24])
 (.seq (.cond (tm 24) .skip
 (.exit 0))
 (.block 1 (.seq (rg [oq 6 (.extract (tm 23) 2) [25]] [6,22])
 (.seq (rg [oq 28 (ar .gtr (tm 6) (.lit (.int .i32 127))) [33],gf 29 28 (.mv (tm 6)) [],gf 30 28 (.toInt .u8 (tm 29)) [],gf 31 28 (.call (.fn 218) [(tm 30)]) [],gf 32 28 (ar .lss (tm 31) (zi 2)) [],op 33 (.pick (tm 28) (.lit (.bool true)) (tm 32))] [22,33])
 (.cond (tm 33) (.seq (rg [op 4 (.mv (.lit (.bool false)))] [4])
 .ret)
 .skip))))))
def qy:aF:=⟨34,2,[.tmp 4],
 (.seq (rg [op 4 (.mv (tm 4))] [0,1])
 (.seq (.seq (rg [oq 9 (ar .eql (tm 0) (.lit (.str []))) [20],gf 10 9 (.mv (tm 0)) [],gf 11 9 (.len true (tm 10)) [],gf 12 9 (ar .gtr (tm 11) (zi 12)) [],op 14 (.pick (tm 9) (.lit (.bool true)) (tm 12)),gf 15 14 (.mv (tm 0)) [],gf 16 14 (.indexStr (tm 15) (zi 0)) [],gf 17 14 (.call (.fn 218) [(tm 16)]) [],gf 18 14 (.mv (tm 1)) [],gf 19 14 (ar .neq (tm 17) (tm 18)) [],op 20 (.pick (tm 14) (.lit (.bool true)) (tm 19))] [0,20])
 (.cond (tm 20) (.seq (rg [op 4 (.mv (.lit (.bool false)))] [4])
 .ret)
 .skip))
 (.seq (.seq (rg [oq 22 (.rangeStr (tm 0)) [22]] [22])
 (.block 0 (.loop kM)))
 (.seq (rg [op 4 (.mv (.lit (.bool true)))] [4])
 .ret))))⟩
theorem IE:Good Tryz.prog (209,qy):=mkK Z0 Tryz.func209 (by kernel_rfl)
def Du:aF:=⟨12,1,[.tmp 2],
 (.seq (rg [op 2 (.mv (tm 2))] [0])
 (.seq (rg [oq 6 (.call (.fn 219) []) [10],op 5 (.lookup 2 (.int .i64 0) true (tm 6) (tm 0)),op 9 (.extract (tm 5) 0),op 10 (.extract (tm 5) 1),op 4 (.mv (tm 10))] [4])
 (.seq (rg [oq 2 (.mv (tm 4)) [11]] [2])
 .ret)))⟩
theorem IF:Good Tryz.prog (210,Du):=mkK Z0 Tryz.func210 (by kernel_rfl)
noncomputable def JN:aF:=cZ Tryz.prog Z0 Tryz.f213
theorem IG:Good Tryz.prog (213,JN):=mkC Z0 Tryz.func213 (by kernel_rfl)
noncomputable def JO:aF:=cZ Tryz.prog Z0 Tryz.f214
theorem II:Good Tryz.prog (214,JO):=mkC Z0 Tryz.func214 (by kernel_rfl)
def Dv:aF:=⟨9,2,[.tmp 4],
 (.seq (rg [op 4 (.mv (tm 4))] [0,1])
 (.seq (rg [oq 7 (.call (.fn 221) [(tm 0),(tm 1)]) [8],op 4 (ar .geq (tm 7) (zi 0))] [4])
 .ret))⟩
theorem IJ:Good Tryz.prog (215,Dv):=mkK Z0 Tryz.func215 (by kernel_rfl)
def Bo:aF:=⟨6,1,[.tmp 2],
 (.seq (rg [oq 1 (.box (tm 0)) [2]] [1])
 (.seq (rg [oq 3 (.aB 1 (tm 1)) [5],ld 4 3,op 2 (ar .neq (tm 4) (zi 0))] [2])
 .ret))⟩
theorem IK:Good Tryz.prog (216,Bo):=mkK Z0 Tryz.func216 (by kernel_rfl)
def Bp:aF:=⟨6,1,[.tmp 2],
 (.seq (rg [oq 1 (.box (tm 0)) [2]] [1])
 (.seq (rg [oq 3 (.load true 6 (tm 1)) [5],op 4 (.call (.fn 208) [(tm 3)]),op 2 (.not (tm 4))] [2])
 .ret))⟩
theorem IL:Good Tryz.prog (217,Bp):=mkK Z0 Tryz.func217 (by kernel_rfl)
def jt:aF:=⟨39,1,[.tmp 2],
 (.seq (rg [op 2 (.mv (tm 2))] [0])
 (.seq (.block 0 (.seq (rg [oq 6 (ar .eql (tm 0) (.lit (.int .u8 32))) [13],gf 7 6 (.mv (tm 0)) [],gf 8 6 (ar .eql (tm 7) (.lit (.int .u8 9))) [],op 10 (.pick (tm 6) (.lit (.bool true)) (tm 8)),gf 11 10 (.mv (tm 0)) [],gf 12 10 (ar .eql (tm 11) (.lit (.int .u8 10))) [],op 3 (.pick (tm 10) (.lit (.bool true)) (tm 12))] [0,3])
 (.cond (tm 3) (.seq (rg [op 2 (.mv (zi 1))] [2])
 .ret)
 (.seq (rg [oq 17 (ar .eql (tm 0) (.lit (.int .u8 95))) [24],gf 18 17 (.mv (tm 0)) [],gf 19 17 (ar .leq (.lit (.int .u8 97)) (tm 18)) [],gf 20 17 (.mv (tm 19)) [],gt 21 20 (.mv (tm 0)) [],gt 22 20 (ar .leq (tm 21) (.lit (.int .u8 122))) [],gf 23 17 (.pick (tm 20) (tm 22) (.lit (.bool false))) [],op 14 (.pick (tm 17) (.lit (.bool true)) (tm 23))] [0,14])
 (.cond (tm 14) (.seq (rg [op 2 (.mv (zi 2))] [2])
 .ret)
 (.seq (rg [oq 28 (ar .leq (.lit (.int .u8 65)) (tm 0)) [31],gt 29 28 (.mv (tm 0)) [],gt 30 28 (ar .leq (tm 29) (.lit (.int .u8 90))) [],op 25 (.pick (tm 28) (tm 30) (.lit (.bool false)))] [0,25])
 (.cond (tm 25) (.seq (rg [op 2 (.mv (zi 3))] [2])
 .ret)
 (.seq (rg [oq 35 (ar .leq (.lit (.int .u8 48)) (tm 0)) [38],gt 36 35 (.mv (tm 0)) [],gt 37 35 (ar .leq (tm 36) (.lit (.int .u8 57))) [],op 32 (.pick (tm 35) (tm 37) (.lit (.bool false)))] [32])
 (.cond (tm 32) (.seq (rg [op 2 (.mv (zi 4))] [2])
 .ret)
 .skip)))))))))
 (.seq (rg [op 2 (.mv (zi 0))] [2])
 .ret)))⟩
theorem IM:Good Tryz.prog (218,jt):=mkK Z0 Tryz.func218 (by kernel_rfl)
def tR:aK:=
 (.seq (rg [op 8 (ar .lss (tm 7) (tm 6))] [1,5,6,7,8])
 (.seq (.cond (tm 8) .skip
 (.exit 0))
 (.seq (.block 1 (.seq (rg [oq 9 (.aj 1 (tm 5) (tm 7)) [10],ld 3 9] [1,3,5,6,7])
 (rg [om (.mapUpdate 2 (tm 1) (tm 3) (zi 1)) [12]] [1,5,6,7])))
 (rg [oq 7 (ar .add (tm 7) (zi 1)) [13]] [1,5,6,7]))))
def Bq:aF:=⟨15,0,[.tmp 0],
 (.seq (rg [op 0 (.mv (tm 0))] [])
 (.seq (rg [oq 1 (.mkMap) [4]] [1])
 (.seq (.seq (rg [op 5 (.call (.fn 222) [(.lit (.str [102,117,110,32,108,101,116,32,114,101,99,32,105,110,32,105,102,32,116,104,101,110,32,101,108,115,101,32,109,97,116,99,104,32,100,111,32,104,97,110,100,108,101,32,115,104,97,108,108,111,119,32,110,97,109,101,100,32,109,97,115,107,32,117,115,105,110,103,32,99,108,111,115,101,32,114,101,115,117,109,101,32,100,114,111,112,32,114,101,116,117,114,110,32,116,114,117,101,32,102,97,108,115,101,32,100,97,116,97,32,101,102,102,101,99,116,32,111,110,99,101,32,100,101,102,32,109,97,105,110]))]),op 6 (.len false (tm 5)),op 7 (.mv (zi 0))] [1,5,6,7])
 (.block 0 (.loop tR)))
 (.seq (rg [oq 0 (.mv (tm 1)) [14]] [0])
 .ret))))⟩
theorem IN:Good Tryz.prog (219,Bq):=mkK Z0 Tryz.func219 (by kernel_rfl)
noncomputable def JP:aF:=cZ Tryz.prog Z0 Tryz.f220
theorem IP:Good Tryz.prog (220,JP):=mkC Z0 Tryz.func220 (by kernel_rfl)
def tS:aK:=
 (.seq (rg [op 9 (ar .lss (tm 8) (tm 7))] [0,1,7,8,9])
 (.seq (.cond (tm 9) .skip
 (.exit 0))
 (.seq (.block 1 (.seq (rg [oq 5 (.mv (tm 8)) [10]] [0,1,5,7,8])
 (.seq (rg [oq 14 (.aj 2 (tm 0) (tm 5)) [16],op 15 (.load true 2 (tm 14)),op 16 (.call (.val (tm 1)) [(tm 15)])] [0,1,5,7,8,16])
 (.cond (tm 16) (.seq (rg [oq 4 (.mv (tm 5)) [17]] [4])
 .ret)
 .skip))))
 (rg [oq 8 (ar .add (tm 8) (zi 1)) [18]] [0,1,7,8]))))
def Br:aF:=⟨19,2,[.tmp 4],
 (.seq (rg [op 4 (.mv (tm 4))] [0,1])
 (.seq (.seq (rg [oq 7 (.len false (tm 0)) [8],op 8 (.mv (zi 0))] [0,1,7,8])
 (.block 0 (.loop tS)))
 (.seq (rg [op 4 (.mv (zi (-1)))] [4])
 .ret)))⟩
theorem IQ:Good Tryz.prog (221,Br):=mkK Z0 Tryz.func221 (by kernel_rfl)
noncomputable def Mx:List (FuncId × aF):=[(9,af9),(14,P8),(15,P9),(16,Qa),(17,Qb),(18,Qc),(19,Qd),(20,Qe),(22,DV),(23,zS),(24,BZ),(25,Gy),(26,Qf),(29,zN),(30,Qg),(32,Qh),(34,D9),(35,Ew),(36,Qi),(38,Qj),(40,Qk),(44,DX),(45,Av),(46,Ql),(47,Qm),(48,Qn),(49,Qo),(50,Qp),(51,Fe),(52,EB),(53,Qq),(55,FD),(56,A8),(57,Qr),(58,GO),(59,FE),(60,Ea),(61,Qs),(62,Qt),(63,Qu),(64,Qv),(65,zR),(66,Qw),(67,Qx),(68,DU),(69,Am),(70,EL),(71,DK),(72,yh),(73,lG),(74,BY),(75,wu),(76,Gt),(77,AA),(78,E7),(79,Qy),(80,Qz),(81,QA),(82,QB),(84,wq),(85,DL),(86,DM),(87,QC),(88,QD),(89,Eb),(90,QE),(92,GP),(93,FF),(94,QF),(95,s4),(96,QG),(98,QH),(100,Jz),(105,uP),(106,si),(107,nu),(108,Da),(110,vL),(111,xO),(112,gC),(113,sM),(114,A9),(115,JA),(116,jJ),(117,Ba),(118,nt),(119,pO),(120,uf),(121,dP),(122,wU),(123,wS),(124,Af),(125,CQ),(126,nv),(127,C6),(128,Ay),(129,JB),(130,Bb),(131,Bc),(132,zL),(133,pg),(134,rV),(135,Di),(136,zK),(137,Dj),(138,JC),(139,Bd),(140,qu),(141,vM),(142,Be),(143,nC),(144,JD),(145,JE),(147,JF),(150,Bf),(152,wT),(155,Aa),(156,zZ),(157,Dk),(158,As),(159,sg),(160,lS),(161,Bg),(162,Bh),(163,fP),(164,Dl),(165,Bi),(166,lQ),(167,vN),(168,Dm),(169,rT),(170,AB),(171,so),(172,Bj),(173,JG),(174,Bk),(175,JH),(176,Dn),(177,zD),(178,uk),(179,iu),(180,Dp),(181,zJ),(182,Bl),(183,Bm),(184,Dq),(185,Dr),(186,JI),(187,JJ),(188,JK),(189,JL),(191,Ax),(192,vO),(195,zX),(196,xx),(197,vP),(198,Dt),(199,xP),(200,vQ),(201,Bn),(203,JM),(204,lH),(205,CJ),(206,zI),(208,sN),(209,qy),(210,Du),(213,JN),(214,JO),(215,Dv),(216,Bo),(217,Bp),(218,jt),(219,Bq),(220,JP),(221,Br)]
noncomputable def aW:FuncId->Option aF:=De Mx
theorem IS: ∀x ∈ Mx,Good Tryz.prog x:=
 gc P7 (gc Lc (gc Ld (gc Le (gc Lf (gc Lh (gc Li (gc Lj (gc Ll (gc Lm (gc Ln (gc Lo (gc Lp (gc Lq (gc Lr (gc Ls (gc Lt (gc Lu (gc Lv (gc Lw (gc Ly (gc Lz (gc LA (gc LB (gc LC (gc LF (gc LG (gc LH (gc LI (gc LJ (gc LK (gc LM (gc LN (gc LO (gc LP (gc LQ (gc LR (gc LS (gc LU (gc LV (gc LW (gc LX (gc LY (gc LZ (gc L4 (gc L5 (gc L6 (gc L7 (gc L8 (gc L9 (gc Ma (gc Mb (gc Mc (gc Md (gc Me (gc Mf (gc Mg (gc Mh (gc Mi (gc Mj (gc Mk (gc Ml (gc Mm (gc Mn (gc Mo (gc Mp (gc Mq (gc Mr (gc Ms (gc Mu (gc Mv (gc Mw (gc GQ (gc GR (gc GS (gc GU (gc GV (gc GW (gc GX (gc GY (gc GZ (gc G0 (gc G1 (gc G2 (gc G3 (gc G4 (gc G5 (gc G6 (gc G7 (gc G8 (gc G9 (gc He (gc Hf (gc Hg (gc Hh (gc Hi (gc Hj (gc Hl (gc Ho (gc Hp (gc Hq (gc Hr (gc Hs (gc Ht (gc Hu (gc Hv (gc Hw (gc Hx (gc Hy (gc Hz (gc HA (gc HB (gc HC (gc HD (gc HE (gc HF (gc HG (gc HH (gc HI (gc HJ (gc HK (gc HL (gc HM (gc HN (gc HO (gc HP (gc HQ (gc HR (gc HS (gc HT (gc HV (gc HW (gc HX (gc HY (gc HZ (gc H6 (gc H7 (gc H8 (gc H9 (gc Ia (gc Ib (gc Ic (gc Ie (gc Ig (gc Ih (gc Ii (gc Ij (gc Ik (gc Il (gc Im (gc Io (gc Ip (gc Iq (gc Ir (gc Is (gc It (gc Iu (gc Iv (gc Iw (gc Ix (gc Iy (gc Iz (gc IA (gc IC (gc ID (gc IE (gc IF (gc IG (gc II (gc IJ (gc IK (gc IL (gc IM (gc IN (gc IP (gc IQ (fun _ h=>nomatch h))))))))))))))))))))))))))))))))))))))))))))))))))))))))))))))))))))))))))))))))))))))))))))))))))))))))))))))))))))))))))))))))))))))))))))))))))))))))))))))))))))))))))))))))
theorem My:Ft Tryz.prog aW:=fun f af h=>vF Mx IS f af h
theorem RP:aW 9=some af9:=rfl
theorem Pq:aW 22=some DV:=rfl
theorem O9:aW 23=some zS:=rfl
theorem Jl:aW 24=some BZ:=rfl
theorem PX:aW 25=some Gy:=rfl
theorem O5:aW 29=some zN:=rfl
theorem QI:aW 34=some D9:=rfl
theorem OM:aW 35=some Ew:=rfl
theorem Pv:aW 44=some DX:=rfl
theorem Jg:aW 45=some Av:=rfl
theorem PW:aW 51=some Fe:=rfl
theorem OX:aW 52=some EB:=rfl
theorem QJ:aW 55=some FD:=rfl
theorem QK:aW 56=some A8:=rfl
theorem QL:aW 58=some GO:=rfl
theorem QM:aW 59=some FE:=rfl
theorem QN:aW 60=some Ea:=rfl
theorem O8:aW 65=some zR:=rfl
theorem Jf:aW 68=some DU:=rfl
theorem CU:aW 69=some Am:=rfl
theorem Pp:aW 70=some EL:=rfl
theorem OV:aW 71=some DK:=rfl
theorem O7:aW 72=some yh:=rfl
theorem OP:aW 73=some lG:=rfl
theorem PT:aW 74=some BY:=rfl
theorem Jh:aW 75=some wu:=rfl
theorem PL:aW 76=some Gt:=rfl
theorem E1:aW 77=some AA:=rfl
theorem PO:aW 78=some E7:=rfl
theorem OY:aW 84=some wq:=rfl
theorem O3:aW 85=some DL:=rfl
theorem O4:aW 86=some DM:=rfl
theorem FG:aW 89=some Eb:=rfl
theorem QO:aW 92=some GP:=rfl
theorem QS:aW 93=some FF:=rfl
theorem QT:aW 95=some s4:=rfl
theorem KD:aW 105=some uP:=rfl
theorem KA:aW 106=some si:=rfl
theorem EV:aW 107=some nu:=rfl
theorem KT:aW 108=some Da:=rfl
theorem FH:aW 110=some vL:=rfl
theorem Ci:aW 111=some xO:=rfl
theorem Mz:aW 112=some gC:=rfl
theorem MA:aW 113=some sM:=rfl
theorem MB:aW 114=some A9:=rfl
theorem Km:aW 116=some jJ:=rfl
theorem MC:aW 117=some Ba:=rfl
theorem Kz:aW 118=some nt:=rfl
theorem Ky:aW 119=some pO:=rfl
theorem J3:aW 120=some uf:=rfl
theorem J5:aW 121=some dP:=rfl
theorem BI:aW 122=some wU:=rfl
theorem JZ:aW 123=some wS:=rfl
theorem Kt:aW 124=some Af:=rfl
theorem Kw:aW 125=some CQ:=rfl
theorem uU:aW 126=some nv:=rfl
theorem KP:aW 127=some C6:=rfl
theorem KN:aW 128=some Ay:=rfl
theorem MD:aW 130=some Bb:=rfl
theorem ME:aW 131=some Bc:=rfl
theorem Kl:aW 132=some zL:=rfl
theorem J9:aW 133=some pg:=rfl
theorem J8:aW 134=some rV:=rfl
theorem MF:aW 135=some Di:=rfl
theorem Kk:aW 136=some zK:=rfl
theorem MG:aW 137=some Dj:=rfl
theorem FI:aW 139=some Bd:=rfl
theorem MH:aW 140=some qu:=rfl
theorem MI:aW 141=some vM:=rfl
theorem MJ:aW 142=some Be:=rfl
theorem MK:aW 143=some nC:=rfl
theorem ML:aW 150=some Bf:=rfl
theorem BH:aW 152=some wT:=rfl
theorem Kq:aW 155=some Aa:=rfl
theorem Kp:aW 156=some zZ:=rfl
theorem MM:aW 157=some Dk:=rfl
theorem KC:aW 158=some As:=rfl
theorem EN:aW 159=some sg:=rfl
theorem yD:aW 160=some lS:=rfl
theorem FJ:aW 161=some Bg:=rfl
theorem MN:aW 162=some Bh:=rfl
theorem MO:aW 163=some fP:=rfl
theorem MP:aW 164=some Dl:=rfl
theorem MQ:aW 165=some Bi:=rfl
theorem BL:aW 166=some lQ:=rfl
theorem MR:aW 167=some vN:=rfl
theorem MS:aW 168=some Dm:=rfl
theorem J0:aW 169=some rT:=rfl
theorem KO:aW 170=some AB:=rfl
theorem KQ:aW 171=some so:=rfl
theorem MT:aW 172=some Bj:=rfl
theorem MU:aW 174=some Bk:=rfl
theorem MV:aW 176=some Dn:=rfl
theorem J1:aW 177=some zD:=rfl
theorem J7:aW 178=some uk:=rfl
theorem MW:aW 179=some iu:=rfl
theorem MX:aW 180=some Dp:=rfl
theorem Kj:aW 181=some zJ:=rfl
theorem MY:aW 182=some Bl:=rfl
theorem MZ:aW 183=some Bm:=rfl
theorem M0:aW 184=some Dq:=rfl
theorem M1:aW 185=some Dr:=rfl
theorem KM:aW 191=some Ax:=rfl
theorem zl:aW 192=some vO:=rfl
theorem Ko:aW 195=some zX:=rfl
theorem BN:aW 196=some xx:=rfl
theorem zm:aW 197=some vP:=rfl
theorem M3:aW 198=some Dt:=rfl
theorem M4:aW 199=some xP:=rfl
theorem M5:aW 200=some vQ:=rfl
theorem FK:aW 201=some Bn:=rfl
theorem J2:aW 204=some lH:=rfl
theorem Ka:aW 205=some CJ:=rfl
theorem Ki:aW 206=some zI:=rfl
theorem M6:aW 208=some sN:=rfl
theorem M7:aW 209=some qy:=rfl
theorem M8:aW 210=some Du:=rfl
theorem M9:aW 215=some Dv:=rfl
theorem Na:aW 216=some Bo:=rfl
theorem Nb:aW 217=some Bp:=rfl
theorem Nc:aW 218=some jt:=rfl
theorem Nd:aW 219=some Bq:=rfl
theorem FL:aW 221=some Br:=rfl
theorem Cj (p:Addr) (w:World):
 CallsD Tryz.prog 109 #[.pointer (some p)] .returning w fun e u' w'=>e= .returned (.tuple #[])/\u'= .returning/\w'=w:=by
 refine callsD_of_wpS Tryz.func109 rfl fun c₀ cs hu=> ?_
 apply wpS_seq
 apply wpS_region
 simp [wpOpsS,go_sem,recoverD,hu,Tryz.ntmps109,Exit.thenS]
 apply wpS_seq
 apply wpS_region
 simp [wpOpsS,go_sem,Exit.thenS,Act.put,Act.eval,Array.replicate]
 refine wpS_cond (t:=false) (by simp [Act.eval,Array.replicate]) ?_
 simp only [Bool.false_eq_true,if_false]
 refine wpS_of_wp (wp_skip ?_)
 cases c₀
 simp_all [bodyPostS,results,Tryz.results109]
theorem Ck (v:Value) (w:World): (Instr.typeAssert (.iface 154 v) 20 154 true).run Tryz.prog w= .ok (.tuple #[v, .bool true]) w:=by kernel_rfl
theorem s5 (p:Addr) (x:Value) (n:Int) (older:List PanicEntry) (w:World) (hc:w.cell? p=some x) (hz:w.frozen? p=false):
 CallsD Tryz.prog 109 #[.pointer (some p)] (.panicking ({v:= .iface 154 (.agg #[.int .i64 n]),recovered:=false} ::older)) w fun e u' w'=>
  e= .returned (.tuple #[])/\u'= .panicking ({v:= .iface 154 (.agg #[.int .i64 n]),recovered:=true} ::older)/\
  ∃te,w'=(w.alloc (.cells #[.int .i64 n] te)).setCell p (.int .i64 n):=by
 refine callsD_of_wpS Tryz.func109 rfl fun c₀ cs hu=> ?_
 apply wpS_seq
 apply wpS_region
 simp [wpOpsS,go_sem,recoverD,hu,Tryz.ntmps109,Exit.thenS]
 apply wpS_seq
 apply wpS_region
 simp [wpOpsS,go_sem,Exit.thenS,Act.put,Act.eval,Array.replicate]
 refine wpS_cond (t:=true) (by simp [Act.eval,Array.replicate]) ?_
 simp only [if_true]
 apply wpS_seq
 apply wpS_region
 simp [wpOpsS,go_sem,Ck,Exit.thenS,Act.put,Act.eval,Array.replicate]
 apply wpS_seq
 apply wpS_seq
 apply wpS_region
 simp [wpOpsS,go_sem,Exit.thenS,Act.put,Act.eval]
 refine wpS_cond (t:=false) (by simp [Act.eval]) ?_
 simp only [Bool.false_eq_true,if_false]
 refine wpS_of_wp (wp_skip ?_)
 simp only [Exit.thenS]
 apply wpS_region
 have hp:p.block<w.heap.size:=World.block_lt_of_cell? _ _ hc
 have hc': ∀o,(w.alloc o).cell? p=some x:=fun o=>(World.cell?_alloc_lt _ _ _ hp).trans hc
 have hz': ∀o,(w.alloc o).frozen? p=false:=fun o=>(World.frozen?_alloc_old _ _ _ (Nat.ne_of_lt hp)).trans hz
 simp [wpOpsS,go_sem,Act.put,Act.eval,hc',hz',bodyPostS,results,Tryz.results109]
 exact ⟨_,rfl⟩
theorem Nf {au:Gl} (hg: ∀f ty,au.catches f=some ty->f=54/\ty=154):Fk Tryz.prog au:=by
 intro f ty hf
 obtain ⟨rfl,rfl⟩:=hg f ty hf
 refine ⟨⟨_,Tryz.func54,by kernel_rfl,by kernel_rfl⟩,34,fun g fa ca W Q hreal cP hQ=> ?_⟩
 have hmf: ∀ (fn:Fn) (first cap:Array Value) (w:World),(Instr.makeFunc fn first cap).run Tryz.prog w= .ok (.func fn first cap) w:=fun _ _ _ _=>rfl
 refine calls_of_wp_defers Tryz.func54 rfl ?_
 apply wp_seq
 apply wp_region
 simp [wpOps,go_sem,Exit.then,Act.put,Act.eval,Tryz.ntmps54]
 left
 apply wp_seq
 apply wp_region
 simp [wpOps,go_sem,hmf,Exit.then,Act.put,Act.eval]
 left;left
 apply wp_seq
 apply wp_region
 simp [wpOps,go_sem,Exit.then,Act.put,Act.eval]
 left
 left
 obtain ⟨fn,hfn,hbn,hnn⟩:=hreal
 rw [kB hfn hbn hnn]
 refine Calls.mono (R:=Q) cP fun en w1 hq=> ?_
 obtain ⟨⟨y,t,hcell⟩,hen⟩:=hQ en w1 hq
 have hc1:w1.cell? ⟨W.heap.size,0,none⟩=some y:=by simp [World.cell?,hcell]
 have hz1:w1.frozen? ⟨W.heap.size,0,none⟩=false:=by simp [World.frozen?,hcell]
 have hset: ∀ (w:World) (v:Value),w.heap[W.heap.size]? =some (.cells #[y] t)->w.setCell ⟨W.heap.size,0,none⟩ v=w.setRow W.heap.size #[v]:=fun w v h=>by
  have hlt:=(Array.getElem?_eq_some_iff.1 h).1
  have hv:=(Array.getElem?_eq_some_iff.1 h).2
  unfold World.setCell World.setRow
  congr 1
  apply Array.ext_getElem?
  intro i
  simp only [Array.getElem?_modify]
  split
  ·rename_i hi
   subst hi
   rw [h]
   simp
  ·rfl
 rcases hen with ⟨v,rfl⟩ | ⟨n,rfl⟩
 ·simp [Act.put]
  apply wp_seq
  apply wp_region
  simp [wpOps,go_sem,Exit.then,Act.put,Act.eval,hc1,hz1]
  left
  refine wp_ret ?_
  simp only [bodyPostD]
  refine leaves_cons (f:=109) (args:= #[.pointer (some ⟨W.heap.size,0,none⟩)]) (by simp) (by simp [go_sem]) ?_
  refine (Cj ⟨W.heap.size,0,none⟩ _).mono ?_
  rintro e u' w'' ⟨rfl,rfl,rfl⟩
  have hc2: (w1.setCell ⟨W.heap.size,0,none⟩ (.int .i64 0)).cell? ⟨W.heap.size,0,none⟩=some (.int .i64 0):=by
   simp only [World.cell?,World.setCell,Array.getElem?_modify,if_true,hcell]
   simp
  exact ⟨.int .i64 0,by simp [results,Tryz.results54,go_sem,hc2], .returned v,w1,hq,w1,0,rfl,⟨Nat.le_refl _,rfl,rfl,rfl,fun _ _=>rfl⟩,hset _ _ hcell, .inl ⟨⟨v,rfl⟩,rfl⟩⟩
 ·simp [Exit.then,bodyPostD]
  refine leaves_cons (f:=109) (args:= #[.pointer (some ⟨W.heap.size,0,none⟩)]) (by simp) (by simp [go_sem]) ?_
  refine (s5 ⟨W.heap.size,0,none⟩ y n [] _ hc1 hz1).mono ?_
  rintro e u' w'' ⟨rfl,rfl,te,rfl⟩
  have hlt:W.heap.size<w1.heap.size:=(Array.getElem?_eq_some_iff.1 hcell).1
  have hcell2: (w1.alloc (.cells #[.int .i64 n] te)).heap[W.heap.size]? =some (.cells #[y] t):=by rw [heap_alloc_old _ _ hlt];exact hcell
  have hc2: ((w1.alloc (.cells #[.int .i64 n] te)).setCell ⟨W.heap.size,0,none⟩ (.int .i64 n)).cell? ⟨W.heap.size,0,none⟩=some (.int .i64 n):=by
   simp only [World.cell?,World.setCell,Array.getElem?_modify,if_true,hcell2]
   simp
  exact ⟨.int .i64 n,by simp [results,Tryz.results54,go_sem,hc2], .panicked [{v:= .iface 154 (.agg #[.int .i64 n]),recovered:=false}],w1,hq,w1.alloc (.cells #[.int .i64 n] te),n,rfl,
   ⟨by simp,rfl,rfl,rfl,fun b hb=>heap_alloc_old _ _ hb⟩,hset _ _ hcell2, .inr rfl⟩
end Go.AI
namespace Go.Proofs
open Go.Shelf
def Tryz.Bt:Go.Shelf.Ren:=⟨fun|157=>222|229=>223|199=>224|261=>225|311=>226|312=>227|n=>n,fun|9=>9|31=>26|3=>3|5=>5|4=>4|119=>251|0=>0|40=>253|152=>254|21=>21|154=>256|51=>257|141=>259|196=>263|193=>260|198=>266|49=>264|194=>261|201=>269|226=>271|46=>229|227=>272|n=>n,fun|0=>1|6=>2|n=>n⟩
theorem Tryz.IT:Go.Proofs.Lays.n157 Tryz.prog Tryz.Bt:= {
 mixed:=by kernel_rfl
 f157:=Tryz.func222.trans (congrArg some (by kernel_rfl))
 f199:=Tryz.func224.trans (congrArg some (by kernel_rfl))
 f229:=Tryz.func223.trans (congrArg some (by kernel_rfl))
 f261:=Tryz.func225.trans (congrArg some (by kernel_rfl))
 f311:=Tryz.func226.trans (congrArg some (by kernel_rfl))
 f312:=Tryz.func227.trans (congrArg some (by kernel_rfl))
 t0:=Tryz.underlying0
 a0:=Tryz.isAgg0
 z0:=Tryz.sizeOf0
 v0:=Tryz.zeroValue0
 t3:=Tryz.underlying3
 a3:=Tryz.isAgg3
 z3:=Tryz.sizeOf3
 v3:=Tryz.zeroValue3
 t4:=Tryz.underlying4
 a4:=Tryz.isAgg4
 z4:=Tryz.sizeOf4
 v4:=Tryz.zeroValue4
 t5:=Tryz.underlying5
 a5:=Tryz.isAgg5
 z5:=Tryz.sizeOf5
 v5:=Tryz.zeroValue5
 t9:=Tryz.underlying9
 a9:=Tryz.isAgg9
 z9:=Tryz.sizeOf9
 v9:=Tryz.zeroValue9
 t21:=Tryz.underlying21
 a21:=Tryz.isAgg21
 z21:=Tryz.sizeOf21
 v21:=Tryz.zeroValue21
 t31:=Tryz.underlying26
 a31:=Tryz.isAgg26
 z31:=Tryz.sizeOf26
 v31:=Tryz.zeroValue26
 t40:=Tryz.underlying253
 a40:=Tryz.isAgg253
 z40:=Tryz.sizeOf253
 v40:=Tryz.zeroValue253
 t46:=Tryz.underlying229
 a46:=Tryz.isAgg229
 z46:=Tryz.sizeOf229
 v46:=Tryz.zeroValue229
 t49:=Tryz.underlying264
 a49:=Tryz.isAgg264
 z49:=Tryz.sizeOf264
 v49:=Tryz.zeroValue264
 t51:=Tryz.underlying257
 a51:=Tryz.isAgg257
 z51:=Tryz.sizeOf257
 v51:=Tryz.zeroValue257
 t119:=Tryz.underlying251
 a119:=Tryz.isAgg251
 z119:=Tryz.sizeOf251
 t141:=Tryz.underlying259
 a141:=Tryz.isAgg259
 z141:=Tryz.sizeOf259
 v141:=Tryz.zeroValue259
 t152:=Tryz.underlying254
 a152:=Tryz.isAgg254
 z152:=Tryz.sizeOf254
 v152:=Tryz.zeroValue254
 t154:=Tryz.underlying256
 a154:=Tryz.isAgg256
 z154:=Tryz.sizeOf256
 v154:=Tryz.zeroValue256
 t193:=Tryz.underlying260
 a193:=Tryz.isAgg260
 z193:=Tryz.sizeOf260
 v193:=Tryz.zeroValue260
 t194:=Tryz.underlying261
 a194:=Tryz.isAgg261
 z194:=Tryz.sizeOf261
 v194:=Tryz.zeroValue261
 t196:=Tryz.underlying263
 a196:=Tryz.isAgg263
 z196:=Tryz.sizeOf263
 v196:=Tryz.zeroValue263
 t198:=Tryz.underlying266
 a198:=Tryz.isAgg266
 z198:=Tryz.sizeOf266
 v198:=Tryz.zeroValue266
 t201:=Tryz.underlying269
 a201:=Tryz.isAgg269
 z201:=Tryz.sizeOf269
 v201:=Tryz.zeroValue269
 t226:=Tryz.underlying271
 a226:=Tryz.isAgg271
 z226:=Tryz.sizeOf271
 v226:=Tryz.zeroValue271
 t227:=Tryz.underlying272
 a227:=Tryz.isAgg272
 z227:=Tryz.sizeOf272
 v227:=Tryz.zeroValue272
 g0:=by kernel_rfl
 g6:=by kernel_rfl}
open Go.RowKit Go.Lib in
theorem Tryz.strings_Fields (s:ByteArray) (w:World) (hs:s.size<4294967281) (hascii: ∀ (j:Nat) b,s.data.toList[j]? =some b->b.toNat<128) (htab:Lib.TabIs Tryz.prog w "strings.asciiSpace" .u8 Lib.asciiSpaceTab):
 Calls Tryz.prog 222 #[.string s] w fun e w'=>
  e= .returned (.slice (some ⟨w.heap.size,0,none⟩) (Lib.fields s.data.toList).length (Lib.fields s.data.toList).length)/\w'=w.alloc (.cells ((Lib.fields s.data.toList).map fun l=>Value.string ⟨l.toArray⟩).toArray 9):=Any.strings_Fields Tryz.IT (by kernel_rfl) (by kernel_rfl) s w hs hascii htab
end Go.Proofs
namespace Go.AI
open Go Go.Proofs
abbrev Bs:=List UInt8
abbrev slD (l:List Bs):D:= .slice (l.map .str)
def sh (s t n m p q:Int) (a:Bool) (lo hi:Int):List D:=[.int .i64 s, .int .i64 t, .int .i64 n, .int .i64 m, .int .i64 p, .int .i64 q, .bool a, .int .i64 lo, .int .i64 hi]
def jA:List D:=List.flatten [sh 1 0 0 0 0 0 false 0 0,sh 0 0 0 0 0 0 false (-999999999) 999999999,sh 0 0 0 0 0 0 false 0 1,sh 0 0 0 0 0 0 false 0 0,sh 0 0 1 0 1 0 false 0 0,sh 0 0 0 0 2 0 false 0 0,
 sh 0 0 1 0 2 0 false 0 0,sh 0 0 2 0 2 0 false 0 0,sh 0 0 0 0 3 0 false 0 0,sh 3 0 0 0 2 0 false 0 0,sh 2 0 0 0 0 4 false 0 0,sh 0 0 0 0 1 0 true 0 0,sh 1 0 0 0 1 0 false 0 0,sh 1 1 0 0 1 0 false 0 0,
 sh 2 0 0 0 1 0 true 0 1,sh 2 0 1 0 1 0 true 0 0,sh 2 0 0 0 1 0 false 0 0,sh 0 0 1 12 3 0 false 0 0,sh 1 0 0 0 1 0 false 0 0,sh 1 0 0 0 0 0 false 0 0]
def vR (g:Nat):Option (List D):=if g=0 then some jA else if g=1 then some (Lib.asciiSpaceTab.map (.int .u8)) else none
def IU (f:FuncId):Option TypeId:=if f=54 then some 154 else none
structure IsG (G:Gl):Prop where
 g:G.g=vR
 nat:G.nat=fun _=>none
 cat:G.catches=IU
 post:kF G
theorem Ec (k:IntKind) (l:List Int):bW (l.map (.int k))=true:=by
 induction l with
 |nil=>rfl
 |cons a r ih=>simp only [List.map_cons,bW,ih,D.tree,Bool.and_self]
theorem IsG.tree {G:Gl} (h:IsG G):vD G:=by
 intro g cs hg
 rw [h.g] at hg
 simp only [vR] at hg
 split at hg
 ·cases hg;decide
 ·split at hg
  ·cases hg;exact Ec _ _
  ·cases hg
theorem IsG.Ng {G:Gl} (h:IsG G):Fl Tryz.prog G:=by
 refine ⟨fun f g hf=> ?_,Nf fun f ty hf=> ?_⟩
 ·rw [h.nat] at hf;cases hf
 ·rw [h.cat] at hf
  unfold IU at hf
  split at hf
  ·cases hf;exact ⟨by assumption,rfl⟩
  ·cases hf
theorem mixed:Tryz.prog.follows .mixedOrders=true:=by kernel_rfl
theorem Bu {G:Gl} {W:World} {fx:Nat->Prop} (hG:cY (bare fx) W G) {name:String} {g:Nat} {k:IntKind} {zs:List Int} (hg:Tryz.prog.globalNamed name=some g) (hgl:G.g g=some (zs.map (.int k))):
 Lib.TabIs Tryz.prog W name k zs:=by
 obtain ⟨h1,c,ty,fz,hb,hs⟩:=hG g _ hgl
 unfold Lib.TabIs World.var?
 rw [hg]
 simp only [Option.bind_some,hb,Option.some.injEq]
 cases h1 with
 | @tptr _ _ _ f hf hc hr=>
  apply Array.ext
  ·rw [hs];simp
  ·intro i h1 h2
   have hi:i< (zs.map (D.int k)).length:=by rw [<-hs];exact h1
   have hcell:=hc i hi
   have hzi:i<zs.length:=by simpa using hi
   have hrr:=hr i (.int k zs[i]) (by simp [hzi])
   have hfi:=hrr.dz
   rw [hfi] at hcell
   simp only [World.cell?,hb,Nat.zero_add] at hcell
   simp only [Array.getElem?_eq_getElem h1] at hcell
   have:=Option.some.inj hcell
   rw [this]
   simp
theorem toList_mk (s:ByteArray) (l:List UInt8) (h:l=s.data.toList):s=⟨l.toArray⟩:=by
 subst h;simp
theorem Nh {fx':Nat->Prop} {w:World} {l:List Bs} {b:Nat} (hb:fx' b) (hc: ∀j,j<l.length->w.cell? ⟨b,j,none⟩=some (.string ⟨(l.getD j []).toArray⟩)):
 R (bare fx') w (slD l) (.slice (some ⟨b,0,none⟩) l.length l.length):=by
 refine .slice (sz:=1) (f:=fun i _=> .string ⟨(l.getD i []).toArray⟩) hb (by simp) (Nat.le_refl _) ?_ ?_ ?_
 ·intro i e he
  obtain ⟨x,hx,rfl⟩:=List.mem_map.1 (List.mem_of_getElem? he)
  rfl
 ·intro i j e d he hd
  have hi:i<l.length:=by have:=(List.getElem?_eq_some_iff.1 he).1;simpa using this
  obtain ⟨x,hx,rfl⟩:=List.mem_map.1 (List.mem_of_getElem? he)
  have hj:j=0:=by have:=(List.getElem?_eq_some_iff.1 hd).1;simp [D.cells] at this;omega
  subst hj
  simpa using hc i hi
 ·intro i j e d he hd
  have hi:i<l.length:=by have:=(List.getElem?_eq_some_iff.1 he).1;simpa using this
  have hx:e= .str l[i]:=by
   have:=(List.getElem?_eq_some_iff.1 he).2
   simpa using this.symm
  subst hx
  have hj:j=0:=by have:=(List.getElem?_eq_some_iff.1 hd).1;simp [D.cells] at this;omega
  subst hj
  simp only [D.cells,List.getElem?_cons_zero,Option.some.injEq] at hd
  subst hd
  have:l.getD i []=l[i]:=by simp [List.getD,hi]
  simp only [this]
  exact R.str (ρ:=bare fx') (W:=w) ⟨l[i].toArray⟩
theorem FM {ρ:Ren} {W:World} {l:Bs} {vs:Array Value} (h:Rs ρ W [.str l] vs):vs= #[.string ⟨l.toArray⟩]:=by
 obtain ⟨v,rfl⟩: ∃v,vs= #[v]:=⟨vs.getD 0 undef,by
  apply Array.ext
  ·simp [h.1]
  ·intro i h1 h2
   have:i=0:=by simp at h2;omega
   subst this;simp [Array.getD,h1]⟩
 have:=h.2 0 _ rfl
 obtain ⟨s,hs,hl⟩:=(show R ρ W (.str l) v from this).kA
 rw [hs,toList_mk s l hl]
def Ni (l:Bs):Bool:=l.all fun b=>decide (b.toNat<128)
def Cl:List D->Option D
 | [.str l]=>if l.length<4294967281/\Ni l=true then some (slD (Lib.fields l)) else none
 |_=>none
theorem vS (l:List Bs):bW (l.map .str)=true:=by
 induction l with
 |nil=>rfl
 |cons a r ih=>simp only [List.map_cons,bW,ih,D.tree,Bool.and_self]
theorem Dw {G:Gl} (hGl:IsG G) (args:List D) (r:D) (_ht:bW args=true) (h:Cl args=some r):r.tree=true/\fo Tryz.prog G 222 args r:=by
 clear _ht
 unfold Cl at h
 split at h
 ·rename_i l
  split at h
  ·rename_i hh
   cases h
   refine ⟨by simp [D.tree,vS],fun fx W vs hfx hG ha=> ?_⟩
   rw [FM ha]
   refine (Tryz.strings_Fields ⟨l.toArray⟩ W (by simpa [ByteArray.size] using hh.1) (fun j b hb=> ?_) (Bu (g:=1) hG (by kernel_rfl) (by rw [hGl.g];rfl))).mono ?_
   ·have hm:b ∈ l:=by
     have:=List.mem_of_getElem? hb
     simpa using this
    have:=List.all_eq_true.1 hh.2 b hm
    simpa using this
   ·rintro e w ⟨rfl,rfl⟩
    have hb0:=(RowKit.Below.refl W.heap.size W).alloc (Nat.le_refl _) (.cells ((Lib.fields (⟨l.toArray⟩:ByteArray).data.toList).map fun l=>Value.string ⟨l.toArray⟩).toArray 9)
    refine ⟨fun b=>fx b\/b=W.heap.size,_,rfl,fun b hb=> .inl hb,fun b hb=> ?_,fun b hb=>hb0.block b hb,hb0.size,rfl,rfl,rfl, ?_⟩
    ·rcases hb with hb|rfl
     ·exact .inl hb
     ·refine .inr ⟨Nat.le_refl _, ?_⟩
      show W.heap.size< (W.heap.push _).size
      simp
    ·refine Nh (.inr rfl) fun j hj=> ?_
     have hj':j< (Lib.fields l).length:=hj
     rw [World.cell?_alloc_new]
     simp [List.getD,hj']
  ·cases h
 ·cases h
theorem Dx:Real Tryz.prog 222:=⟨_,Tryz.func222,by kernel_rfl,by kernel_rfl⟩
end Go.AI
namespace Go.AI
open Go Go.Proofs
set_option maxRecDepth 100000
def qC (f:FuncId):Bool:=[117,128,36,38,14,40,20,22,26].contains f
def GC:Gl:= {g:=vR,nat:=fun _=>none,catches:=IU,query:=qC,post:=Df qC}
theorem Cm:IsG GC:=⟨rfl,rfl,rfl,Fv rfl⟩
def X0:iU:=[(222,Cl)]
theorem JQ:dI Tryz.prog GC (bt X0):=dI.cons (L:=[]) (fun f g h=>by cases h) Dx (Dw Cm)
end Go.AI
namespace Go.AI
open Go Go.Proofs
theorem dI.over {L L':iU} (hL:dI Tryz.prog GC (bt L)) (hL':dI Tryz.prog GC (bt L')) {f:FuncId} {g:List D->Option D} (hf:Real Tryz.prog f)
 (h: ∀args r,g args=some r->jc aW (bt L) GC f args r):dI Tryz.prog GC (bt ((f,g)::L')):=by
 refine hL'.cons hf fun args r ht hr=> ?_
 obtain ⟨k,d,hd,rfl⟩:=h args r hr
 obtain ⟨_,h1,h2⟩:=qs hL My Cm.tree Cm.Ng Cm.post mixed hd
 exact ⟨D.rH d h1,fun fx W vs hfx hG ha=>(h2 fx W vs hfx hG ha).mono fun en w hw=>hw.weak⟩
end Go.AI
namespace Go.AI
open Go Go.Proofs
set_option maxRecDepth 100000
abbrev j (n:Int):D:= .int .i64 n
abbrev o:D:= .int .i64 0
abbrev n:D:= .slice []
abbrev e:D:= .str []
def memo:List (List D × D)->List D->Option D
 | [],_=>none
 | (a,r)::t,args=>if bC a args then some r else memo t args
noncomputable def ep (X:Ext) (k:Nat) (f:FuncId) (p:List D × D):Bool:=match vE aW X GC k f p.1 with
 |some d=>d.weak.eqb p.2
 |none=>false
theorem bg {X:Ext} {k:Nat} {f:FuncId} {p:List D × D} (h:ep X k f p=true):jc aW X GC f p.1 p.2:=by
 unfold ep at h
 split at h
 ·rename_i d hd;exact ⟨k,d,hd,D.rD _ _ h⟩
 ·cases h
theorem cE {X:Ext} {f:FuncId} : ∀ {l:List (List D × D)},(∀p ∈ l,jc aW X GC f p.1 p.2)-> ∀args r,memo l args=some r->jc aW X GC f args r
 | [],_,args,r,h=>by cases h
 | (a,x)::t,hl,args,r,h=>by
  simp only [memo] at h
  split at h
  ·rename_i heq
   cases h
   rw [<-fD a args heq]
   exact hl _ List.mem_cons_self
  ·exact cE (fun p hp=>hl p (List.mem_cons_of_mem _ hp)) args r h
theorem Bv {X:Ext} {f:FuncId} {k:Nat} {l:List (List D × D)} (h:l.all (ep X k f)=true): ∀p ∈ l,jc aW X GC f p.1 p.2:=fun p hp=>bg (List.all_eq_true.1 h p hp)
def eu:D:=(.slice [(.agg [(.str [76,105,115,116]),(.slice [(.str [97])]),(.slice [(.agg [(.str [78,105,108]),(.slice [])]),(.agg [(.str [67,111,110,115]),(.slice [(.agg [(.int .i64 1),(.int .i64 0),(.str [97]),(.slice []),(.slice []),(.int .i64 0)]),(.agg [(.int .i64 6),(.int .i64 0),(.str [76,105,115,116]),(.slice [(.agg [(.int .i64 1),(.int .i64 0),(.str [97]),(.slice []),(.slice []),(.int .i64 0)])]),(.slice []),(.int .i64 0)])])])])]),(.agg [(.str [86,111,105,100]),(.slice []),(.slice [])]),(.agg [(.str [84,114,101,101]),(.slice []),(.slice [(.agg [(.str [76,101,97,102]),(.slice [])]),(.agg [(.str [78,111,100,101]),(.slice [(.agg [(.int .i64 6),(.int .i64 0),(.str [84,114,101,101]),(.slice []),(.slice []),(.int .i64 0)]),(.agg [(.int .i64 2),(.int .i64 0),(.str []),(.slice []),(.slice []),(.int .i64 0)]),(.agg [(.int .i64 6),(.int .i64 0),(.str [84,114,101,101]),(.slice []),(.slice []),(.int .i64 0)])])])])]),(.agg [(.str [76,111,111,112]),(.slice []),(.slice [(.agg [(.str [77,111,114,101]),(.slice [(.agg [(.int .i64 6),(.int .i64 0),(.str [76,111,111,112]),(.slice []),(.slice []),(.int .i64 0)])])])])])])
def JR:D:=(.slice [(.agg [(.str [83,116,97,116,101]),(.slice [(.agg [(.str [103,101,116]),(.int .i64 4),(.int .i64 0),(.str []),(.slice []),(.slice []),(.int .i64 0),(.int .i64 2),(.int .i64 0),(.str []),(.slice []),(.slice []),(.int .i64 0),(.bool false)]),(.agg [(.str [112,117,116]),(.int .i64 2),(.int .i64 0),(.str []),(.slice []),(.slice []),(.int .i64 0),(.int .i64 4),(.int .i64 0),(.str []),(.slice []),(.slice []),(.int .i64 0),(.bool false)])])]),(.agg [(.str [69,120,99]),(.slice [(.agg [(.str [114,97,105,115,101]),(.int .i64 4),(.int .i64 0),(.str []),(.slice []),(.slice []),(.int .i64 0),(.int .i64 6),(.int .i64 0),(.str [86,111,105,100]),(.slice []),(.slice []),(.int .i64 0),(.bool true)])])]),(.agg [(.str [73,79]),(.slice [])])])
def m14:List (List D × D):=[
 ([(.agg [eu,JR,n,(j 3),o,e,e,n,n,n])],(j 5)),
 ([(.agg [eu,(.slice [(.agg [(.str [83,116,97,116,101]),(.slice [(.agg [(.str [103,101,116]),(j 4),o,e,n,n,o,(j 2),o,e,n,n,o,(.bool false)]),(.agg [(.str [112,117,116]),(j 2),o,e,n,n,o,(j 4),o,e,n,n,o,(.bool false)])])]),(.agg [(.str [69,120,99]),(.slice [(.agg [(.str [114,97,105,115,101]),(j 4),o,e,n,n,o,(j 6),o,(.str [86,111,105,100]),n,n,o,(.bool true)])])])]),n,(j 3),o,e,e,n,n,n])],o)]
def m15:List (List D × D):=[
 ([(.agg [eu,(.slice [(.agg [(.str [83,116,97,116,101]),(.slice [(.agg [(.str [103,101,116]),(j 4),o,e,n,n,o,(j 2),o,e,n,n,o,(.bool false)]),(.agg [(.str [112,117,116]),(j 2),o,e,n,n,o,(j 4),o,e,n,n,o,(.bool false)])])]),(.agg [(.str [69,120,99]),(.slice [(.agg [(.str [114,97,105,115,101]),(j 4),o,e,n,n,o,(j 6),o,(.str [86,111,105,100]),n,n,o,(.bool true)])])])]),n,(j 3),o,e,e,n,n,n]),(.str [67,111,110,115]),(.slice [(.agg [(j 3),o,e,n,n,o])])],(.tuple [(.slice [(.agg [(j 3),o,e,n,n,o]),(.agg [(j 6),o,(.str [76,105,115,116]),(.slice [(.agg [(j 3),o,e,n,n,o])]),n,o])]),o]))]
def m20:List (List D × D):=[
 ([(.agg [eu,(.slice [(.agg [(.str [83,116,97,116,101]),(.slice [(.agg [(.str [103,101,116]),(j 4),o,e,n,n,o,(j 2),o,e,n,n,o,(.bool false)]),(.agg [(.str [112,117,116]),(j 2),o,e,n,n,o,(j 4),o,e,n,n,o,(.bool false)])])]),(.agg [(.str [69,120,99]),(.slice [(.agg [(.str [114,97,105,115,101]),(j 4),o,e,n,n,o,(j 6),o,(.str [86,111,105,100]),n,n,o,(.bool true)])])])]),n,(j 3),o,e,e,n,n,n]),(.agg [(j 6),o,(.str [76,105,115,116]),(.slice [(.agg [(j 6),o,(.str [86,111,105,100]),n,n,o])]),n,o])],(.tuple [(.bool true),o])),
 ([(.agg [eu,(.slice [(.agg [(.str [83,116,97,116,101]),(.slice [(.agg [(.str [103,101,116]),(j 4),o,e,n,n,o,(j 2),o,e,n,n,o,(.bool false)]),(.agg [(.str [112,117,116]),(j 2),o,e,n,n,o,(j 4),o,e,n,n,o,(.bool false)])])]),(.agg [(.str [69,120,99]),(.slice [(.agg [(.str [114,97,105,115,101]),(j 4),o,e,n,n,o,(j 6),o,(.str [86,111,105,100]),n,n,o,(.bool true)])])])]),n,(j 3),o,e,e,n,n,n]),(.agg [(j 6),o,(.str [86,111,105,100]),n,n,o])],(.tuple [(.bool false),o]))]
def m22:List (List D × D):=[
 ([(.agg [eu,(.slice [(.agg [(.str [83,116,97,116,101]),(.slice [(.agg [(.str [103,101,116]),(j 4),o,e,n,n,o,(j 2),o,e,n,n,o,(.bool false)]),(.agg [(.str [112,117,116]),(j 2),o,e,n,n,o,(j 4),o,e,n,n,o,(.bool false)])])]),(.agg [(.str [69,120,99]),(.slice [(.agg [(.str [114,97,105,115,101]),(j 4),o,e,n,n,o,(j 6),o,(.str [86,111,105,100]),n,n,o,(.bool true)])])])]),n,(j 3),o,e,e,n,n,n]),(.agg [(j 6),o,(.str [76,105,115,116]),(.slice [(.agg [(j 3),o,e,n,n,o])]),n,o]),(j 5)],(.tuple [(j 7),o])),
 ([(.agg [eu,(.slice [(.agg [(.str [83,116,97,116,101]),(.slice [(.agg [(.str [103,101,116]),(j 4),o,e,n,n,o,(j 2),o,e,n,n,o,(.bool false)]),(.agg [(.str [112,117,116]),(j 2),o,e,n,n,o,(j 4),o,e,n,n,o,(.bool false)])])]),(.agg [(.str [69,120,99]),(.slice [(.agg [(.str [114,97,105,115,101]),(j 4),o,e,n,n,o,(j 6),o,(.str [86,111,105,100]),n,n,o,(.bool true)])])])]),n,(j 3),o,e,e,n,n,n]),(.agg [(j 6),o,(.str [76,105,115,116]),(.slice [(.agg [(j 5),o,e,(.slice [(.agg [(j 2),o,e,n,n,o]),(.agg [(j 2),o,e,n,n,o])]),n,(j (-1))])]),n,o]),(j 3)],(.tuple [o,(j 8)]))]
def m24:List (List D × D):=[
 ([(.agg [eu,(.slice [(.agg [(.str [83,116,97,116,101]),(.slice [(.agg [(.str [103,101,116]),(j 4),o,e,n,n,o,(j 2),o,e,n,n,o,(.bool false)]),(.agg [(.str [112,117,116]),(j 2),o,e,n,n,o,(j 4),o,e,n,n,o,(.bool false)])])]),(.agg [(.str [69,120,99]),(.slice [(.agg [(.str [114,97,105,115,101]),(j 4),o,e,n,n,o,(j 6),o,(.str [86,111,105,100]),n,n,o,(.bool true)])])])]),n,(j 3),o,e,e,n,n,n]),(.agg [(j 2),o,e,n,n,o]),(j 1)],(.tuple [(.slice [(.agg [(j 1),o,e,e,n,n,n]),(.agg [(j 1),(j 1),e,e,n,n,n])]),o]))]
def m26:List (List D × D):=[
 ([(.agg [eu,(.slice [(.agg [(.str [83,116,97,116,101]),(.slice [(.agg [(.str [103,101,116]),(j 4),o,e,n,n,o,(j 2),o,e,n,n,o,(.bool false)]),(.agg [(.str [112,117,116]),(j 2),o,e,n,n,o,(j 4),o,e,n,n,o,(.bool false)])])]),(.agg [(.str [69,120,99]),(.slice [(.agg [(.str [114,97,105,115,101]),(j 4),o,e,n,n,o,(j 6),o,(.str [86,111,105,100]),n,n,o,(.bool true)])])])]),n,(j 3),o,e,e,n,n,n]),(.agg [(j 6),o,(.str [76,105,115,116]),(.slice [(.agg [(j 2),o,e,n,n,o])]),n,o]),(.agg [(j 10),o,(.str [67,111,110,115]),e,n,(.slice [(.agg [(j 1),(j (-5)),e,e,n,n,n]),(.agg [(j 10),o,(.str [78,105,108]),e,n,n,n])]),n])],(.tuple [(.bool true),o]))]
def m30:List (List D × D):=[
 ([(.agg [eu,(.slice [(.agg [(.str [83,116,97,116,101]),(.slice [(.agg [(.str [103,101,116]),(j 4),o,e,n,n,o,(j 2),o,e,n,n,o,(.bool false)]),(.agg [(.str [112,117,116]),(j 2),o,e,n,n,o,(j 4),o,e,n,n,o,(.bool false)])])]),(.agg [(.str [69,120,99]),(.slice [(.agg [(.str [114,97,105,115,101]),(j 4),o,e,n,n,o,(j 6),o,(.str [86,111,105,100]),n,n,o,(.bool true)])])])]),n,(j 3),o,e,e,n,n,n]),(.str [76,101,97,102])],(.tuple [(j 2),o,o]))]
def m32:List (List D × D):=[
 ([(.agg [eu,(.slice [(.agg [(.str [83,116,97,116,101]),(.slice [(.agg [(.str [103,101,116]),(j 4),o,e,n,n,o,(j 2),o,e,n,n,o,(.bool false)]),(.agg [(.str [112,117,116]),(j 2),o,e,n,n,o,(j 4),o,e,n,n,o,(.bool false)])])]),(.agg [(.str [69,120,99]),(.slice [(.agg [(.str [114,97,105,115,101]),(j 4),o,e,n,n,o,(j 6),o,(.str [86,111,105,100]),n,n,o,(.bool true)])])])]),n,(j 3),o,e,e,n,n,n]),(.str [114,101,97,100])],(.tuple [(j (-1)),(j 1),o]))]
def m34:List (List D × D):=[
 ([(.agg [eu,(.slice [(.agg [(.str [83,116,97,116,101]),(.slice [(.agg [(.str [103,101,116]),(j 4),o,e,n,n,o,(j 2),o,e,n,n,o,(.bool false)]),(.agg [(.str [112,117,116]),(j 2),o,e,n,n,o,(j 4),o,e,n,n,o,(.bool false)])])]),(.agg [(.str [69,120,99]),(.slice [(.agg [(.str [114,97,105,115,101]),(j 4),o,e,n,n,o,(j 6),o,(.str [86,111,105,100]),n,n,o,(.bool true)])])])]),n,(j 3),o,e,e,n,n,n]),(.str [83,116,97,116,101])],(.tuple [o,o]))]
def m36:List (List D × D):=[
 ([(.agg [eu,(.slice [(.agg [(.str [83,116,97,116,101]),(.slice [(.agg [(.str [103,101,116]),(j 4),o,e,n,n,o,(j 2),o,e,n,n,o,(.bool false)]),(.agg [(.str [112,117,116]),(j 2),o,e,n,n,o,(j 4),o,e,n,n,o,(.bool false)])])]),(.agg [(.str [69,120,99]),(.slice [(.agg [(.str [114,97,105,115,101]),(j 4),o,e,n,n,o,(j 6),o,(.str [86,111,105,100]),n,n,o,(.bool true)])])])]),n,(j 3),o,e,e,n,n,n])],o)]
def m38:List (List D × D):=[
 ([(.agg [eu,(.slice [(.agg [(.str [83,116,97,116,101]),(.slice [(.agg [(.str [103,101,116]),(j 4),o,e,n,n,o,(j 2),o,e,n,n,o,(.bool false)]),(.agg [(.str [112,117,116]),(j 2),o,e,n,n,o,(j 4),o,e,n,n,o,(.bool false)])])]),(.agg [(.str [69,120,99]),(.slice [(.agg [(.str [114,97,105,115,101]),(j 4),o,e,n,n,o,(j 6),o,(.str [86,111,105,100]),n,n,o,(.bool true)])])])]),n,(j 3),o,e,e,n,n,n]),(.agg [(j 10),o,(.str [66,111,120]),e,n,n,n])],(j 6)),
 ([(.agg [eu,(.slice [(.agg [(.str [83,116,97,116,101]),(.slice [(.agg [(.str [103,101,116]),(j 4),o,e,n,n,o,(j 2),o,e,n,n,o,(.bool false)]),(.agg [(.str [112,117,116]),(j 2),o,e,n,n,o,(j 4),o,e,n,n,o,(.bool false)])])]),(.agg [(.str [69,120,99]),(.slice [(.agg [(.str [114,97,105,115,101]),(j 4),o,e,n,n,o,(j 6),o,(.str [86,111,105,100]),n,n,o,(.bool true)])])])]),n,(j 3),o,e,e,n,n,n]),(.agg [(j 10),o,(.str [67,111,110,115]),e,n,(.slice [(.agg [(j 1),(j 1),e,e,n,n,n])]),n])],(j 7)),
 ([(.agg [eu,(.slice [(.agg [(.str [83,116,97,116,101]),(.slice [(.agg [(.str [103,101,116]),(j 4),o,e,n,n,o,(j 2),o,e,n,n,o,(.bool false)]),(.agg [(.str [112,117,116]),(j 2),o,e,n,n,o,(j 4),o,e,n,n,o,(.bool false)])])]),(.agg [(.str [69,120,99]),(.slice [(.agg [(.str [114,97,105,115,101]),(j 4),o,e,n,n,o,(j 6),o,(.str [86,111,105,100]),n,n,o,(.bool true)])])])]),n,(j 3),o,e,e,n,n,n]),(.agg [(j 11),o,e,e,n,(.slice [(.agg [(j 1),(j 1),e,e,n,n,n])]),(.slice [(.agg [(.str [67,111,110,115]),(.slice [(.str [104]),(.str [116])]),(j 1),o,e,e,n,n,n]),(.agg [(.str [78,105,108]),n,(j 1),o,e,e,n,n,n])])])],(j 9)),
 ([(.agg [eu,(.slice [(.agg [(.str [83,116,97,116,101]),(.slice [(.agg [(.str [103,101,116]),(j 4),o,e,n,n,o,(j 2),o,e,n,n,o,(.bool false)]),(.agg [(.str [112,117,116]),(j 2),o,e,n,n,o,(j 4),o,e,n,n,o,(.bool false)])])]),(.agg [(.str [69,120,99]),(.slice [(.agg [(.str [114,97,105,115,101]),(j 4),o,e,n,n,o,(j 6),o,(.str [86,111,105,100]),n,n,o,(.bool true)])])])]),n,(j 3),o,e,e,n,n,n]),(.agg [(j 11),o,e,e,n,(.slice [(.agg [(j 1),(j 1),e,e,n,n,n])]),(.slice [(.agg [(.str [78,105,108]),n,(j 1),o,e,e,n,n,n]),(.agg [(.str [67,111,110,115]),(.slice [(.str [104]),(.str [116])]),(j 1),o,e,e,n,n,n])])])],o),
 ([(.agg [eu,(.slice [(.agg [(.str [83,116,97,116,101]),(.slice [(.agg [(.str [103,101,116]),(j 4),o,e,n,n,o,(j 2),o,e,n,n,o,(.bool false)]),(.agg [(.str [112,117,116]),(j 2),o,e,n,n,o,(j 4),o,e,n,n,o,(.bool false)])])]),(.agg [(.str [69,120,99]),(.slice [(.agg [(.str [114,97,105,115,101]),(j 4),o,e,n,n,o,(j 6),o,(.str [86,111,105,100]),n,n,o,(.bool true)])])])]),n,(j 3),o,e,e,n,n,n]),(.agg [(j 14),o,(.str [83,116,97,116,101]),e,n,(.slice [(.agg [(j 1),(j 1),e,e,n,n,n])]),(.slice [(.agg [(.str [114,101,116,117,114,110]),(.slice [(.str [120])]),(j 1),o,e,e,n,n,n]),(.agg [(.str [103,101,116]),(.slice [(.str [117]),(.str [107])]),(j 1),o,e,e,n,n,n])])])],(j 9))]
def m40:List (List D × D):=[
 ([(.agg [eu,(.slice [(.agg [(.str [83,116,97,116,101]),(.slice [(.agg [(.str [103,101,116]),(j 4),o,e,n,n,o,(j 2),o,e,n,n,o,(.bool false)]),(.agg [(.str [112,117,116]),(j 2),o,e,n,n,o,(j 4),o,e,n,n,o,(.bool false)])])]),(.agg [(.str [69,120,99]),(.slice [(.agg [(.str [114,97,105,115,101]),(j 4),o,e,n,n,o,(j 6),o,(.str [86,111,105,100]),n,n,o,(.bool true)])])])]),n,(j 3),o,e,e,n,n,n]),(.agg [(j 6),o,(.str [76,105,115,116]),n,n,o])],(j 7))]
def m60:List (List D × D):=[
 ([(.agg [(j 1),o,(.str [97]),n,n,o])],o),
 ([(.agg [(j 2),o,e,n,n,o])],o),
 ([(.agg [(j 3),o,e,n,n,o])],o),
 ([(.agg [(j 4),o,e,n,n,o])],o),
 ([(.agg [(j 6),o,(.str [76,105,115,116]),(.slice [(.agg [(j 1),o,(.str [97]),n,n,o])]),n,o])],o),
 ([(.agg [(j 6),o,(.str [76,105,115,116]),(.slice [(.agg [(j 2),o,e,n,n,o])]),n,o])],o),
 ([(.agg [(j 6),o,(.str [76,105,115,116]),(.slice [(.agg [(j 3),o,e,n,n,o])]),n,o])],o),
 ([(.agg [(j 6),o,(.str [76,105,115,116]),(.slice [(.agg [(j 5),o,e,(.slice [(.agg [(j 2),o,e,n,n,o]),(.agg [(j 2),o,e,n,n,o])]),n,(j (-1))])]),n,o])],o),
 ([(.agg [(j 6),o,(.str [76,105,115,116]),(.slice [(.agg [(j 6),o,(.str [86,111,105,100]),n,n,o])]),n,o])],o),
 ([(.agg [(j 6),o,(.str [76,105,115,116]),n,n,o])],o),
 ([(.agg [(j 6),o,(.str [76,111,111,112]),n,n,o])],o),
 ([(.agg [(j 6),o,(.str [84,114,101,101]),n,n,o])],o),
 ([(.agg [(j 6),o,(.str [86,111,105,100]),n,n,o])],o)]
def m80:List (List D × D):=[
 ([(.agg [(j 10),o,(.str [66,111,120]),e,n,n,n])],o),
 ([(.agg [(j 10),o,(.str [67,111,110,115]),e,n,(.slice [(.agg [(j 1),(j (-5)),e,e,n,n,n]),(.agg [(j 10),o,(.str [78,105,108]),e,n,n,n])]),n])],o),
 ([(.agg [(j 10),o,(.str [67,111,110,115]),e,n,(.slice [(.agg [(j 1),(j 1),e,e,n,n,n])]),n])],o),
 ([(.agg [(j 11),o,e,e,n,(.slice [(.agg [(j 1),(j 1),e,e,n,n,n])]),(.slice [(.agg [(.str [67,111,110,115]),(.slice [(.str [104]),(.str [116])]),(j 1),o,e,e,n,n,n]),(.agg [(.str [78,105,108]),n,(j 1),o,e,e,n,n,n])])])],o),
 ([(.agg [(j 11),o,e,e,n,(.slice [(.agg [(j 1),(j 1),e,e,n,n,n])]),(.slice [(.agg [(.str [78,105,108]),n,(j 1),o,e,e,n,n,n]),(.agg [(.str [67,111,110,115]),(.slice [(.str [104]),(.str [116])]),(j 1),o,e,e,n,n,n])])])],o),
 ([(.agg [(j 14),o,(.str [83,116,97,116,101]),e,n,(.slice [(.agg [(j 1),(j 1),e,e,n,n,n])]),(.slice [(.agg [(.str [114,101,116,117,114,110]),(.slice [(.str [120])]),(j 1),o,e,e,n,n,n]),(.agg [(.str [103,101,116]),(.slice [(.str [117]),(.str [107])]),(j 1),o,e,e,n,n,n])])])],o)]
def m95:List (List D × D):=[
 ([(.agg [eu,JR,n,(j 3),o,e,e,n,n,n])],o),
 ([(.agg [eu,(.slice [(.agg [(.str [83,116,97,116,101]),(.slice [(.agg [(.str [103,101,116]),(j 4),o,e,n,n,o,(j 2),o,e,n,n,o,(.bool false)]),(.agg [(.str [112,117,116]),(j 2),o,e,n,n,o,(j 4),o,e,n,n,o,(.bool false)])])]),(.agg [(.str [69,120,99]),(.slice [(.agg [(.str [114,97,105,115,101]),(j 4),o,e,n,n,o,(j 6),o,(.str [86,111,105,100]),n,n,o,(.bool true)])])])]),n,(j 3),o,e,e,n,n,n])],o)]
def QU:List (List D × D):=[
 ([(.str [103,101,116]),(j 1)],(.bool true)),
 ([(.str [104]),(j 1)],(.bool true)),
 ([(.str [107]),(j 1)],(.bool true)),
 ([(.str [112,117,116]),(j 1)],(.bool true)),
 ([(.str [114,97,105,115,101]),(j 1)],(.bool true)),
 ([(.str [116]),(j 1)],(.bool true)),
 ([(.str [117]),(j 1)],(.bool true)),
 ([(.str [120]),(j 1)],(.bool true)),
 ([(.str [66,111,120]),(j 2)],(.bool true)),
 ([(.str [67,111,110,115]),(j 2)],(.bool true)),
 ([(.str [69,120,99]),(j 2)],(.bool true)),
 ([(.str [73,79]),(j 2)],(.bool true)),
 ([(.str [76,101,97,102]),(j 2)],(.bool true)),
 ([(.str [76,105,115,116]),(j 2)],(.bool true)),
 ([(.str [76,111,111,112]),(j 2)],(.bool true)),
 ([(.str [77,111,114,101]),(j 2)],(.bool true)),
 ([(.str [78,105,108]),(j 2)],(.bool true)),
 ([(.str [78,111,100,101]),(j 2)],(.bool true)),
 ([(.str [83,116,97,116,101]),(j 2)],(.bool true)),
 ([(.str [84,114,101,101]),(j 2)],(.bool true)),
 ([(.str [86,111,105,100]),(j 2)],(.bool true)),
 ([(.str [97]),(j 1)],(.bool true)),
 ([e,o],(.bool true))]
def QV:List (List D × D):=[
 ([(.str [103,101,116])],(.bool false)),
 ([(.str [104])],(.bool false)),
 ([(.str [107])],(.bool false)),
 ([(.str [112,117,116])],(.bool false)),
 ([(.str [114,97,105,115,101])],(.bool false)),
 ([(.str [116])],(.bool false)),
 ([(.str [117])],(.bool false)),
 ([(.str [120])],(.bool false)),
 ([(.str [97])],(.bool false))]
theorem QW: ∀p ∈ QV,jc aW (bt X0) GC 210 p.1 p.2:=Bv (k:=60) (by kernel_rfl)
theorem IV:Real Tryz.prog 210:=⟨_,Tryz.func210,by kernel_rfl,by kernel_rfl⟩
def Nj:iU:=(210,memo QV)::X0
theorem Dy:dI Tryz.prog GC (bt Nj):=dI.over JQ JQ IV (cE QW)
theorem QX: ∀p ∈ QU,jc aW (bt Nj) GC 143 p.1 p.2:=Bv (k:=60) (by kernel_rfl)
theorem IW:Real Tryz.prog 143:=⟨_,Tryz.func143,by kernel_rfl,by kernel_rfl⟩
def iW:iU:=(143,memo QU)::Nj
theorem zn:dI Tryz.prog GC (bt iW):=dI.over Dy Dy IW (cE QX)
theorem Nk:ep (bt iW) 400 60 ((m60[0]?).getD ([],o))=true:=by kernel_rfl
theorem Nl:ep (bt iW) 400 60 ((m60[3]?).getD ([],o))=true:=by kernel_rfl
theorem Nn:ep (bt iW) 400 60 ((m60[6]?).getD ([],o))=true:=by kernel_rfl
theorem No:ep (bt iW) 400 60 ((m60[9]?).getD ([],o))=true:=by kernel_rfl
theorem IX:ep (bt iW) 400 60 ((m60[12]?).getD ([],o))=true:=by kernel_rfl
theorem Np:ep (bt iW) 400 80 ((m80[2]?).getD ([],o))=true:=by kernel_rfl
theorem Nq:ep (bt iW) 400 80 ((m80[5]?).getD ([],o))=true:=by kernel_rfl
theorem Nr:ep (bt iW) 400 60 ((m60[1]?).getD ([],o))=true:=by kernel_rfl
theorem Ns:ep (bt iW) 400 60 ((m60[4]?).getD ([],o))=true:=by kernel_rfl
theorem Nt:ep (bt iW) 400 60 ((m60[7]?).getD ([],o))=true:=by kernel_rfl
theorem IY:ep (bt iW) 400 60 ((m60[10]?).getD ([],o))=true:=by kernel_rfl
theorem Nu:ep (bt iW) 400 80 ((m80[0]?).getD ([],o))=true:=by kernel_rfl
theorem Nv:ep (bt iW) 400 80 ((m80[3]?).getD ([],o))=true:=by kernel_rfl
theorem Nw:ep (bt iW) 400 60 ((m60[2]?).getD ([],o))=true:=by kernel_rfl
theorem Ny:ep (bt iW) 400 60 ((m60[5]?).getD ([],o))=true:=by kernel_rfl
theorem Nz:ep (bt iW) 400 60 ((m60[8]?).getD ([],o))=true:=by kernel_rfl
theorem IZ:ep (bt iW) 400 60 ((m60[11]?).getD ([],o))=true:=by kernel_rfl
theorem NA:ep (bt iW) 400 80 ((m80[1]?).getD ([],o))=true:=by kernel_rfl
theorem NB:ep (bt iW) 400 80 ((m80[4]?).getD ([],o))=true:=by kernel_rfl
theorem RR: ∀p ∈ m60,jc aW (bt iW) GC 60 p.1 p.2:=by
 intro p hp
 unfold m60 at hp
 simp only [List.mem_cons,List.not_mem_nil,or_false] at hp
 rcases hp with rfl|rfl|rfl|rfl|rfl|rfl|rfl|rfl|rfl|rfl|rfl|rfl|rfl
 ·exact bg Nk
 ·exact bg Nr
 ·exact bg Nw
 ·exact bg Nl
 ·exact bg Ns
 ·exact bg Ny
 ·exact bg Nn
 ·exact bg Nt
 ·exact bg Nz
 ·exact bg No
 ·exact bg IY
 ·exact bg IZ
 ·exact bg IX
theorem NC:Real Tryz.prog 60:=⟨_,Tryz.func60,by kernel_rfl,by kernel_rfl⟩
def L60:iU:=(60,memo m60)::iW
theorem ND:dI Tryz.prog GC (bt L60):=dI.over zn zn NC (cE RR)
theorem RS: ∀p ∈ m80,jc aW (bt iW) GC 80 p.1 p.2:=by
 intro p hp
 unfold m80 at hp
 simp only [List.mem_cons,List.not_mem_nil,or_false] at hp
 rcases hp with rfl|rfl|rfl|rfl|rfl|rfl
 ·exact bg Nu
 ·exact bg NA
 ·exact bg Np
 ·exact bg Nv
 ·exact bg NB
 ·exact bg Nq
theorem NF:Real Tryz.prog 80:=⟨_,Tryz.func80,by kernel_rfl,by kernel_rfl⟩
def L80:iU:=(80,memo m80)::L60
theorem FN:dI Tryz.prog GC (bt L80):=dI.over zn ND NF (cE RS)
theorem NG:ep (bt L80) 400 95 ((m95[0]?).getD ([],o))=true:=by kernel_rfl
theorem NH:ep (bt L80) 400 95 ((m95[1]?).getD ([],o))=true:=by kernel_rfl
theorem RT: ∀p ∈ m95,jc aW (bt L80) GC 95 p.1 p.2:=by
 intro p hp
 unfold m95 at hp
 simp only [List.mem_cons,List.not_mem_nil,or_false] at hp
 rcases hp with rfl|rfl
 ·exact bg NG
 ·exact bg NH
theorem NI:Real Tryz.prog 95:=⟨_,Tryz.func95,by kernel_rfl,by kernel_rfl⟩
def L95:iU:=(95,memo m95)::L80
theorem gN:dI Tryz.prog GC (bt L95):=dI.over FN FN NI (cE RT)
theorem NJ:ep (bt L95) 400 14 ((m14[0]?).getD ([],o))=true:=by kernel_rfl
theorem NK:ep (bt L95) 400 20 ((m20[0]?).getD ([],o))=true:=by kernel_rfl
theorem NL:ep (bt L95) 400 22 ((m22[1]?).getD ([],o))=true:=by kernel_rfl
theorem NM:ep (bt L95) 400 30 ((m30[0]?).getD ([],o))=true:=by kernel_rfl
theorem NN:ep (bt L95) 400 36 ((m36[0]?).getD ([],o))=true:=by kernel_rfl
theorem NO:ep (bt L95) 400 38 ((m38[2]?).getD ([],o))=true:=by kernel_rfl
theorem NP:ep (bt L95) 400 40 ((m40[0]?).getD ([],o))=true:=by kernel_rfl
theorem NQ:ep (bt L95) 400 14 ((m14[1]?).getD ([],o))=true:=by kernel_rfl
theorem NR:ep (bt L95) 400 20 ((m20[1]?).getD ([],o))=true:=by kernel_rfl
theorem NS:ep (bt L95) 400 24 ((m24[0]?).getD ([],o))=true:=by kernel_rfl
theorem NT:ep (bt L95) 400 32 ((m32[0]?).getD ([],o))=true:=by kernel_rfl
theorem NU:ep (bt L95) 400 38 ((m38[0]?).getD ([],o))=true:=by kernel_rfl
theorem NV:ep (bt L95) 400 38 ((m38[3]?).getD ([],o))=true:=by kernel_rfl
theorem NW:ep (bt L95) 400 15 ((m15[0]?).getD ([],o))=true:=by kernel_rfl
theorem NX:ep (bt L95) 400 22 ((m22[0]?).getD ([],o))=true:=by kernel_rfl
theorem NY:ep (bt L95) 400 26 ((m26[0]?).getD ([],o))=true:=by kernel_rfl
theorem NZ:ep (bt L95) 400 34 ((m34[0]?).getD ([],o))=true:=by kernel_rfl
theorem N0:ep (bt L95) 400 38 ((m38[1]?).getD ([],o))=true:=by kernel_rfl
theorem N1:ep (bt L95) 400 38 ((m38[4]?).getD ([],o))=true:=by kernel_rfl
end Go.AI
