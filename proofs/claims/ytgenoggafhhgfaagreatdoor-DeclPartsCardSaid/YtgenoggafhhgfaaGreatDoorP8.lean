/- Texts of the proof: what functions of the program compute, step by step. No conditions of its own. -/
import Derived.Test.YtgenoggafhhgfaaGreatDoorChecked
import Derived.Test.YtgenoggafhhgfaaGreatDoorP6
import Derived.KernelRfl
import Derived.Test.YtgenoggafhhgfaaGreatDoorP7
import Derived.Test.YtgenoggafhhgfaaGreatDoorP4
import Derived.Tactics
import Derived.Tactics2
import Derived.Defers
import Derived.Recover
import Derived.Laws.Pointers
import Derived.Shelf.Lay
import Derived.Shelf.LaySoft
import Derived.Shelf.Strings.Fields
import Derived.Test.YtgenoggafhhgfaaGreatDoorProg
import Derived.Below
import Derived.Test.YtgenoggafhhgfaaGreatDoorP5
import Derived.Lib.MapLaws
set_option linter.unusedVariables false
set_option linter.unusedSimpArgs false
namespace Go.AI
open Go Go.Proofs
set_option maxRecDepth 100000
def keep172 : List (Nat × List Nat) := [(0,[1,2]),(1,[1,2,10,11,12]),(2,[1,2,10,11,12,13]),(3,[1,2,6,10,11,12]),(4,[1,2,10,11,12,19]),(5,[4]),(6,[1,2,10,11,12]),(7,[1,22,23,24]),(8,[1,22,23,24,25]),(9,[1,8,22,23,24]),(10,[1,22,23,24,32]),(11,[4]),(12,[1,22,23,24]),(13,[4])]
def lp172_0 : ACode :=
  (.seq (rg [op 13 (.arith .lss .none (tm 12) (tm 11))] [1,2,10,11,12,13])
  (.seq (.cond (tm 13) .skip
  (.exit 0))
  (.seq (.block 1 (.seq (rg [op 14 (.indexAddrS 7 (tm 10) (tm 12)),op 15 (.load true 7 (tm 14)),op 6 (.alloc z7a),on (.store 7 (tm 6) (tm 15))] [1,2,6,10,11,12])
  (.seq (rg [oq 17 (.load true 7 (tm 6)) [19],op 18 (.call (.val (tm 1)) [(tm 17)]),op 19 (.not (tm 18))] [1,2,10,11,12,19])
  (.cond (tm 19) (.seq (rg [op 4 (.mv (.lit (.bool false)))] [4])
  .ret)
  .skip))))
  (rg [oq 12 (.arith .add .none (tm 12) (zi 1)) [20]] [1,2,10,11,12]))))
def lp172_1 : ACode :=
  (.seq (rg [op 25 (.arith .lss .none (tm 24) (tm 23))] [1,22,23,24,25])
  (.seq (.cond (tm 25) .skip
  (.exit 2))
  (.seq (.block 3 (.seq (rg [op 26 (.indexAddrS 9 (tm 22) (tm 24)),op 27 (.load true 9 (tm 26)),op 8 (.alloc z9a),on (.store 9 (tm 8) (tm 27))] [1,8,22,23,24])
  (.seq (rg [oq 29 (.addOff 2 (tm 8)) [32],op 30 (.load true 7 (tm 29)),op 31 (.call (.val (tm 1)) [(tm 30)]),op 32 (.not (tm 31))] [1,22,23,24,32])
  (.cond (tm 32) (.seq (rg [op 4 (.mv (.lit (.bool false)))] [4])
  .ret)
  .skip))))
  (rg [oq 24 (.arith .add .none (tm 24) (zi 1)) [33]] [1,22,23,24]))))
def af172 : AFunc := ⟨34,2,[.tmp 4],
  (.seq (rg [oq 2 (.box (tm 0)) [4]] [1,2])
  (.seq (.seq (rg [ao 9 5 2,ld 10 9,op 11 (.len false (tm 10)),op 12 (.mv (zi 0))] [1,2,10,11,12])
  (.block 0 (.loop lp172_0)))
  (.seq (.seq (rg [ao 21 6 2,ld 22 21,op 23 (.len false (tm 22)),op 24 (.mv (zi 0))] [1,22,23,24])
  (.block 2 (.loop lp172_1)))
  (.seq (rg [op 4 (.mv (.lit (.bool true)))] [4])
  .ret))))⟩
theorem cf172 : cFunc Tryz.prog (fun _ => false) (keepL keep172) Tryz.f172 = some af172 := by kernel_rfl
theorem good172 : Good Tryz.prog (172,af172) := ⟨_,_,_,Tryz.func172,cf172⟩
def keep173 : List (Nat × List Nat) := [(0,[1,2,3]),(1,[4])]
def af173 : AFunc := ⟨10,3,[.tmp 4],
  (.seq (rg [oq 3 (.box (tm 0)) [4]] [1,2,3])
  (.seq (rg [oq 5 (.load false 1 (tm 1)) [9],op 6 (.load true 7 (tm 3)),ld 7 2,op 8 (.arith .add .none (tm 7) (zi 1)),op 4 (.call (.fn 130) [(tm 5),(tm 6),(tm 8)])] [4])
  .ret))⟩
theorem cf173 : cFunc Tryz.prog (fun _ => false) (keepL keep173) Tryz.f173 = some af173 := by kernel_rfl
theorem good173 : Good Tryz.prog (173,af173) := ⟨_,_,_,Tryz.func173,cf173⟩
def keep174 : List (Nat × List Nat) := [(0,[1]),(1,[1,12]),(2,[2]),(3,[1,3]),(4,[1,3,17]),(6,[1,3,26]),(8,[1,3,41]),(10,[1,3,68]),(11,[2]),(9,[2]),(7,[2]),(5,[2]),(12,[1,3,4]),(13,[1,3,4,89]),(14,[1,3,4]),(15,[1,3,4,5]),(16,[1,3,4,5,96]),(17,[2]),(18,[1,3,6]),(19,[1,3,6,104]),(20,[2]),(21,[1,3,108,109]),(22,[1,3,108,109,110]),(23,[1,3,7,108,109]),(24,[1,3,8,108,109]),(25,[1,3,8,108,109,116]),(26,[2]),(27,[1,3,108,109]),(28,[131]),(29,[2]),(30,[2])]
def lp174_0 : ACode :=
  (.seq (rg [op 110 (.arith .lss .none (tm 109) (tm 108))] [1,3,108,109,110])
  (.seq (.cond (tm 110) .skip
  (.exit 1))
  (.seq (.block 2 (.seq (rg [oq 7 (.mv (tm 109)) [111]] [1,3,7,108,109])
  (.seq (rg [oq 112 (.load true 7 (tm 1)) [114],op 8 (.call (.fn 203) [(tm 112),(tm 7)])] [1,3,8,108,109])
  (.seq (rg [oq 116 (.arith .neq .none (tm 8) (zi 0)) [116]] [1,3,8,108,109,116])
  (.cond (tm 116) (.seq (rg [oq 2 (.mv (tm 8)) [117]] [2])
  .ret)
  .skip)))))
  (rg [oq 109 (.arith .add .none (tm 109) (zi 1)) [118]] [1,3,108,109]))))
def af174 : AFunc := ⟨132,1,[.tmp 2],
  (.seq (rg [oq 1 (.box (tm 0)) [2]] [1])
  (.seq (.seq (rg [ao 9 0 1,ld 10 9,op 11 (.call (.fn 198) [(tm 10),(zi 0),(zi 19)]),op 12 (.not (tm 11))] [1,12])
  (.cond (tm 12) (.seq (rg [op 2 (.mv (zi 1))] [2])
  .ret)
  .skip))
  (.seq (rg [ao 13 0 1,ld 14 13,op 15 (.indexAddrA 20 9 (.glob 0) (tm 14)),op 16 (.load true 9 (tm 15)),op 3 (.alloc z9),on (.store 9 (tm 3) (tm 16))] [1,3])
  (.seq (.block 0 (.seq (rg [oq 18 (.addOff 1 (tm 1)) [25],ld 19 18,ao 20 7 3,ld 21 20,ao 22 8 3,ld 23 22,op 24 (.call (.fn 198) [(tm 19),(tm 21),(tm 23)]),op 17 (.not (tm 24))] [1,3,17])
  (.cond (tm 17) (.seq (rg [op 2 (.mv (zi 1))] [2])
  .ret)
  (.seq (rg [oq 27 (.addOff 2 (tm 1)) [40],ld 28 27,ao 29 0 3,ld 30 29,op 31 (.call (.fn 143) [(tm 28),(tm 30)]),op 33 (.not (tm 31)),⟨(some 34),.addOff 3 (tm 1),(some (33,false)),[]⟩,⟨(some 35),.load false 1 (tm 34),(some (33,false)),[]⟩,⟨(some 36),.addOff 1 (tm 3),(some (33,false)),[]⟩,⟨(some 37),.load false 1 (tm 36),(some (33,false)),[]⟩,⟨(some 38),.call (.fn 143) [(tm 35),(tm 37)],(some (33,false)),[]⟩,⟨(some 39),.not (tm 38),(some (33,false)),[]⟩,op 26 (.pick (tm 33) (.lit (.bool true)) (tm 39))] [1,3,26])
  (.cond (tm 26) (.seq (rg [op 2 (.mv (zi 4))] [2])
  .ret)
  (.seq (rg [oq 42 (.addOff 4 (tm 1)) [67],ld 43 42,op 44 (.len false (tm 43)),ao 45 2 3,ld 46 45,ao 47 2 3,ld 48 47,ao 49 3 3,ld 50 49,op 51 (.arith .add .none (tm 48) (tm 50)),op 52 (.call (.fn 198) [(tm 44),(tm 46),(tm 51)]),op 54 (.not (tm 52)),⟨(some 55),.addOff 5 (tm 1),(some (54,false)),[]⟩,⟨(some 56),.load false 1 (tm 55),(some (54,false)),[]⟩,⟨(some 57),.len false (tm 56),(some (54,false)),[]⟩,⟨(some 58),.addOff 4 (tm 3),(some (54,false)),[]⟩,⟨(some 59),.load false 1 (tm 58),(some (54,false)),[]⟩,⟨(some 60),.addOff 4 (tm 3),(some (54,false)),[]⟩,⟨(some 61),.load false 1 (tm 60),(some (54,false)),[]⟩,⟨(some 62),.addOff 5 (tm 3),(some (54,false)),[]⟩,⟨(some 63),.load false 1 (tm 62),(some (54,false)),[]⟩,⟨(some 64),.arith .add .none (tm 61) (tm 63),(some (54,false)),[]⟩,⟨(some 65),.call (.fn 198) [(tm 57),(tm 59),(tm 64)],(some (54,false)),[]⟩,⟨(some 66),.not (tm 65),(some (54,false)),[]⟩,op 41 (.pick (tm 54) (.lit (.bool true)) (tm 66))] [1,3,41])
  (.cond (tm 41) (.seq (rg [op 2 (.mv (zi 7))] [2])
  .ret)
  (.seq (rg [oq 69 (.addOff 6 (tm 3)) [83],ld 70 69,op 72 (.not (tm 70)),⟨(some 73),.addOff 6 (tm 1),(some (72,true)),[]⟩,⟨(some 74),.load false 1 (tm 73),(some (72,true)),[]⟩,⟨(some 75),.len false (tm 74),(some (72,true)),[]⟩,⟨(some 76),.arith .gtr .none (tm 75) (zi 0),(some (72,true)),[]⟩,op 78 (.pick (tm 72) (tm 76) (.lit (.bool false))),⟨(some 79),.addOff 6 (tm 1),(some (78,false)),[]⟩,⟨(some 80),.load false 1 (tm 79),(some (78,false)),[]⟩,⟨(some 81),.len false (tm 80),(some (78,false)),[]⟩,⟨(some 82),.arith .gtr .none (tm 81) (zi 9),(some (78,false)),[]⟩,op 68 (.pick (tm 78) (.lit (.bool true)) (tm 82))] [1,3,68])
  (.cond (tm 68) (.seq (rg [op 2 (.mv (zi 7))] [2])
  .ret)
  .skip)))))))))
  (.seq (rg [oq 84 (.addOff 4 (tm 1)) [86],ld 85 84,op 4 (.len false (tm 85))] [1,3,4])
  (.seq (.seq (rg [ao 87 0 1,ld 88 87,op 89 (.arith .eql .none (tm 88) (zi 17))] [1,3,4,89])
  (.cond (tm 89) (rg [op 4 (.mv (zi 1))] [1,3,4])
  .skip))
  (.seq (.seq (rg [oq 90 (.addOff 4 (tm 1)) [94],ld 91 90,op 93 (.sliceRow 1 (tm 91) none (some (tm 4)) none),op 5 (.call (.fn 182) [(tm 93),(zi 1)])] [1,3,4,5])
  (.seq (rg [oq 96 (.arith .neq .none (tm 5) (zi 0)) [96]] [1,3,4,5,96])
  (.cond (tm 96) (.seq (rg [oq 2 (.mv (tm 5)) [97]] [2])
  .ret)
  .skip)))
  (.seq (.seq (rg [oq 98 (.addOff 4 (tm 1)) [102],ld 99 98,op 101 (.sliceRow 1 (tm 99) (some (tm 4)) none none),op 6 (.call (.fn 182) [(tm 101),(zi 2)])] [1,3,6])
  (.seq (rg [oq 104 (.arith .neq .none (tm 6) (zi 0)) [104]] [1,3,6,104])
  (.cond (tm 104) (.seq (rg [oq 2 (.mv (tm 6)) [105]] [2])
  .ret)
  .skip)))
  (.seq (.seq (rg [ao 106 6 1,ld 107 106,op 108 (.len false (tm 107)),op 109 (.mv (zi 0))] [1,3,108,109])
  (.block 1 (.loop lp174_0)))
  (.seq (.seq (rg [oq 119 (.addOff 0 (tm 1)) [131],ld 120 119,op 122 (.arith .neq .none (tm 120) (zi 11)),⟨(some 123),.addOff 6 (tm 3),(some (122,true)),[]⟩,⟨(some 124),.load false 1 (tm 123),(some (122,true)),[]⟩,op 126 (.pick (tm 122) (tm 124) (.lit (.bool false))),⟨(some 127),.addOff 6 (tm 1),(some (126,true)),[]⟩,⟨(some 128),.load false 1 (tm 127),(some (126,true)),[]⟩,⟨(some 129),.len false (tm 128),(some (126,true)),[]⟩,⟨(some 130),.arith .eql .none (tm 129) (zi 0),(some (126,true)),[]⟩,op 131 (.pick (tm 126) (tm 130) (.lit (.bool false)))] [131])
  (.cond (tm 131) (.seq (rg [op 2 (.mv (zi 7))] [2])
  .ret)
  .skip))
  (.seq (rg [op 2 (.mv (zi 0))] [2])
  .ret)))))))))))⟩
theorem cf174 : cFunc Tryz.prog (fun _ => false) (keepL keep174) Tryz.f174 = some af174 := by kernel_rfl
theorem good174 : Good Tryz.prog (174,af174) := ⟨_,_,_,Tryz.func174,cf174⟩
def keep175 : List (Nat × List Nat) := [(0,[1,2]),(1,[1]),(2,[3])]
def af175 : AFunc := ⟨8,2,[.tmp 3],
  (.seq (rg [oq 2 (.box (tm 0)) [3]] [1,2])
  (.seq (rg [op 4 (.load true 7 (tm 2)),op 5 (.call (.fn 131) [(tm 4)]),on (.store 1 (tm 1) (tm 5))] [1])
  (.seq (rg [oq 6 (.load false 1 (tm 1)) [7],op 3 (.arith .eql .none (tm 6) (zi 0))] [3])
  .ret)))⟩
theorem cf175 : cFunc Tryz.prog (fun _ => false) (keepL keep175) Tryz.f175 = some af175 := by kernel_rfl
theorem good175 : Good Tryz.prog (175,af175) := ⟨_,_,_,Tryz.func175,cf175⟩
def keep182 : List (Nat × List Nat) := [(0,[0,1]),(1,[0,1,7,8,9]),(2,[0,1,7,8,9,10]),(3,[0,1,5,6,7,8,9]),(4,[0,1,5,6,7,8,9,14]),(6,[0,1,7,8,9,19]),(7,[4]),(5,[4]),(8,[0,1,7,8,9]),(9,[4])]
def lp182_0 : ACode :=
  (.seq (rg [op 10 (.arith .lss .none (tm 9) (tm 8))] [0,1,7,8,9,10])
  (.seq (.cond (tm 10) .skip
  (.exit 0))
  (.seq (.block 1 (.seq (rg [oq 12 (.indexAddrS 1 (tm 7) (tm 9)) [13],ld 13 12,op 5 (.mv (tm 9)),op 6 (.mv (tm 13))] [0,1,5,6,7,8,9])
  (.block 2 (.seq (rg [oq 17 (.call (.fn 143) [(tm 6),(tm 1)]) [18],op 14 (.not (tm 17))] [0,1,5,6,7,8,9,14])
  (.cond (tm 14) (.seq (rg [op 4 (.mv (zi 4))] [4])
  .ret)
  (.seq (rg [oq 22 (.sliceRow 1 (tm 0) none (some (tm 5)) none) [24],op 19 (.call (.fn 111) [(tm 22),(tm 6)])] [0,1,7,8,9,19])
  (.cond (tm 19) (.seq (rg [op 4 (.mv (zi 5))] [4])
  .ret)
  .skip)))))))
  (rg [oq 9 (.arith .add .none (tm 9) (zi 1)) [25]] [0,1,7,8,9]))))
def af182 : AFunc := ⟨26,2,[.tmp 4],
  (.seq (rg [op 4 (.mv (tm 4))] [0,1])
  (.seq (.seq (rg [op 7 (.mv (tm 0)),op 8 (.len false (tm 7)),op 9 (.mv (zi 0))] [0,1,7,8,9])
  (.block 0 (.loop lp182_0)))
  (.seq (rg [op 4 (.mv (zi 0))] [4])
  .ret)))⟩
theorem cf182 : cFunc Tryz.prog (fun _ => false) (keepL keep182) Tryz.f182 = some af182 := by kernel_rfl
theorem good182 : Good Tryz.prog (182,af182) := ⟨_,_,_,Tryz.func182,cf182⟩
def keep183 : List (Nat × List Nat) := [(0,[0]),(1,[6,7,8]),(2,[6,7,8,9]),(3,[4,6,7,8]),(4,[4,5,6,7,8]),(5,[4,5,6,7,8,15]),(6,[2]),(7,[6,7,8,19]),(8,[2]),(9,[6,7,8]),(10,[2])]
def lp183_0 : ACode :=
  (.seq (rg [op 9 (.arith .lss .none (tm 8) (tm 7))] [6,7,8,9])
  (.seq (.cond (tm 9) .skip
  (.exit 0))
  (.seq (.block 1 (.seq (rg [op 10 (.indexAddrS 6 (tm 6) (tm 8)),op 11 (.load true 6 (tm 10)),op 4 (.alloc z6),on (.store 6 (tm 4) (tm 11))] [4,6,7,8])
  (.seq (.seq (rg [oq 12 (.load true 6 (tm 4)) [13],op 5 (.call (.fn 60) [(tm 12)])] [4,5,6,7,8])
  (.seq (rg [oq 15 (.arith .neq .none (tm 5) (zi 0)) [15]] [4,5,6,7,8,15])
  (.cond (tm 15) (.seq (rg [oq 2 (.mv (tm 5)) [16]] [2])
  .ret)
  .skip)))
  (.seq (rg [op 17 (.load true 6 (tm 4)),op 18 (.call (.fn 208) [(tm 17)]),op 19 (.not (tm 18))] [6,7,8,19])
  (.cond (tm 19) (.seq (rg [op 2 (.mv (zi 1))] [2])
  .ret)
  .skip)))))
  (rg [oq 8 (.arith .add .none (tm 8) (zi 1)) [20]] [6,7,8]))))
def af183 : AFunc := ⟨21,1,[.tmp 2],
  (.seq (rg [op 2 (.mv (tm 2))] [0])
  (.seq (.seq (rg [op 6 (.mv (tm 0)),op 7 (.len false (tm 6)),op 8 (.mv (zi 0))] [6,7,8])
  (.block 0 (.loop lp183_0)))
  (.seq (rg [op 2 (.mv (zi 0))] [2])
  .ret)))⟩
theorem cf183 : cFunc Tryz.prog (fun _ => false) (keepL keep183) Tryz.f183 = some af183 := by kernel_rfl
theorem good183 : Good Tryz.prog (183,af183) := ⟨_,_,_,Tryz.func183,cf183⟩
def keep184 : List (Nat × List Nat) := [(0,[0]),(1,[2])]
def af184 : AFunc := ⟨10,1,[.tmp 2],
  (.seq (rg [op 2 (.mv (tm 2))] [0])
  (.seq (rg [oq 5 (.call (.fn 209) [(tm 0),(zi 2)]) [9],⟨(some 6),.mv (tm 0),(some (5,true)),[]⟩,⟨(some 7),.call (.fn 210) [(tm 6)],(some (5,true)),[]⟩,⟨(some 8),.not (tm 7),(some (5,true)),[]⟩,op 2 (.pick (tm 5) (tm 8) (.lit (.bool false)))] [2])
  .ret))⟩
theorem cf184 : cFunc Tryz.prog (fun _ => false) (keepL keep184) Tryz.f184 = some af184 := by kernel_rfl
theorem good184 : Good Tryz.prog (184,af184) := ⟨_,_,_,Tryz.func184,cf184⟩
def keep185 : List (Nat × List Nat) := [(0,[0]),(1,[2])]
def af185 : AFunc := ⟨5,1,[.tmp 2],
  (.seq (rg [op 2 (.mv (tm 2))] [0])
  (.seq (rg [oq 2 (.call (.fn 209) [(tm 0),(zi 3)]) [4]] [2])
  .ret))⟩
theorem cf185 : cFunc Tryz.prog (fun _ => false) (keepL keep185) Tryz.f185 = some af185 := by kernel_rfl
theorem good185 : Good Tryz.prog (185,af185) := ⟨_,_,_,Tryz.func185,cf185⟩
def keep186 : List (Nat × List Nat) := [(0,[0,1,2]),(1,[0,1,2,14]),(2,[6]),(3,[1,2,15,16,17]),(4,[1,2,15,16,17,18]),(5,[1,2,7,8,15,16,17]),(6,[1,2,8,9,15,16,17]),(7,[1,2,15,16,17,30]),(8,[6]),(9,[1,2,15,16,17]),(10,[6])]
def lp186_0 : ACode :=
  (.seq (rg [op 18 (.arith .lss .none (tm 17) (tm 16))] [1,2,15,16,17,18])
  (.seq (.cond (tm 18) .skip
  (.exit 0))
  (.seq (.block 1 (.seq (rg [oq 20 (.indexAddrS 2 (tm 15) (tm 17)) [21],op 21 (.load true 2 (tm 20)),op 8 (.alloc z2a),op 7 (.mv (tm 17)),on (.store 2 (tm 8) (tm 21))] [1,2,7,8,15,16,17])
  (.seq (rg [oq 24 (.indexAddrS 9 (tm 1) (tm 7)) [25],op 25 (.load true 9 (tm 24)),op 9 (.alloc z9a),on (.store 9 (tm 9) (tm 25))] [1,2,8,9,15,16,17])
  (.seq (rg [oq 27 (.load true 2 (tm 8)) [30],op 28 (.load true 9 (tm 9)),op 29 (.call (.val (tm 2)) [(tm 27),(tm 28)]),op 30 (.not (tm 29))] [1,2,15,16,17,30])
  (.cond (tm 30) (.seq (rg [op 6 (.mv (.lit (.bool false)))] [6])
  .ret)
  .skip)))))
  (rg [oq 17 (.arith .add .none (tm 17) (zi 1)) [31]] [1,2,15,16,17]))))
def af186 : AFunc := ⟨32,3,[.tmp 6],
  (.seq (rg [op 6 (.mv (tm 6))] [0,1,2])
  (.seq (.seq (rg [oq 11 (.len false (tm 0)) [14],op 13 (.len false (tm 1)),op 14 (.arith .neq .none (tm 11) (tm 13))] [0,1,2,14])
  (.cond (tm 14) (.seq (rg [op 6 (.mv (.lit (.bool false)))] [6])
  .ret)
  .skip))
  (.seq (.seq (rg [op 15 (.mv (tm 0)),op 16 (.len false (tm 15)),op 17 (.mv (zi 0))] [1,2,15,16,17])
  (.block 0 (.loop lp186_0)))
  (.seq (rg [op 6 (.mv (.lit (.bool true)))] [6])
  .ret))))⟩
theorem cf186 : cFunc Tryz.prog (fun _ => false) (keepL keep186) Tryz.f186 = some af186 := by kernel_rfl
theorem good186 : Good Tryz.prog (186,af186) := ⟨_,_,_,Tryz.func186,cf186⟩
def keep187 : List (Nat × List Nat) := [(0,[2,3]),(1,[4])]
def af187 : AFunc := ⟨10,2,[.tmp 4],
  (.seq (rg [oq 2 (.box (tm 0)) [4],op 3 (.box (tm 1))] [2,3])
  (.seq (rg [oq 5 (.addOff 0 (tm 2)) [9],ld 6 5,ao 7 0 3,ld 8 7,op 4 (.arith .eql .none (tm 6) (tm 8))] [4])
  .ret))⟩
theorem cf187 : cFunc Tryz.prog (fun _ => false) (keepL keep187) Tryz.f187 = some af187 := by kernel_rfl
theorem good187 : Good Tryz.prog (187,af187) := ⟨_,_,_,Tryz.func187,cf187⟩
def keep188 : List (Nat × List Nat) := [(0,[2,3]),(1,[4])]
def af188 : AFunc := ⟨12,2,[.tmp 4],
  (.seq (rg [oq 2 (.box (tm 0)) [4],op 3 (.box (tm 1))] [2,3])
  (.seq (rg [oq 5 (.addOff 1 (tm 2)) [11],ld 6 5,op 7 (.len false (tm 6)),ao 8 1 3,ld 9 8,op 10 (.len false (tm 9)),op 4 (.arith .eql .none (tm 7) (tm 10))] [4])
  .ret))⟩
theorem cf188 : cFunc Tryz.prog (fun _ => false) (keepL keep188) Tryz.f188 = some af188 := by kernel_rfl
theorem good188 : Good Tryz.prog (188,af188) := ⟨_,_,_,Tryz.func188,cf188⟩
def keep189 : List (Nat × List Nat) := [(0,[0,1,2]),(1,[0,1,2,14]),(2,[6]),(3,[1,2,15,16,17]),(4,[1,2,15,16,17,18]),(5,[1,2,7,8,15,16,17]),(6,[1,2,8,9,15,16,17]),(7,[1,2,15,16,17,30]),(8,[6]),(9,[1,2,15,16,17]),(10,[6])]
def lp189_0 : ACode :=
  (.seq (rg [op 18 (.arith .lss .none (tm 17) (tm 16))] [1,2,15,16,17,18])
  (.seq (.cond (tm 18) .skip
  (.exit 0))
  (.seq (.block 1 (.seq (rg [oq 20 (.indexAddrS 1 (tm 15) (tm 17)) [21],ld 21 20,op 7 (.mv (tm 17)),op 8 (.mv (tm 21))] [1,2,7,8,15,16,17])
  (.seq (rg [oq 24 (.indexAddrS 9 (tm 1) (tm 7)) [25],op 25 (.load true 9 (tm 24)),op 9 (.alloc z9a),on (.store 9 (tm 9) (tm 25))] [1,2,8,9,15,16,17])
  (.seq (rg [oq 28 (.load true 9 (tm 9)) [30],op 29 (.call (.val (tm 2)) [(tm 8),(tm 28)]),op 30 (.not (tm 29))] [1,2,15,16,17,30])
  (.cond (tm 30) (.seq (rg [op 6 (.mv (.lit (.bool false)))] [6])
  .ret)
  .skip)))))
  (rg [oq 17 (.arith .add .none (tm 17) (zi 1)) [31]] [1,2,15,16,17]))))
def af189 : AFunc := ⟨32,3,[.tmp 6],
  (.seq (rg [op 6 (.mv (tm 6))] [0,1,2])
  (.seq (.seq (rg [oq 11 (.len false (tm 0)) [14],op 13 (.len false (tm 1)),op 14 (.arith .neq .none (tm 11) (tm 13))] [0,1,2,14])
  (.cond (tm 14) (.seq (rg [op 6 (.mv (.lit (.bool false)))] [6])
  .ret)
  .skip))
  (.seq (.seq (rg [op 15 (.mv (tm 0)),op 16 (.len false (tm 15)),op 17 (.mv (zi 0))] [1,2,15,16,17])
  (.block 0 (.loop lp189_0)))
  (.seq (rg [op 6 (.mv (.lit (.bool true)))] [6])
  .ret))))⟩
theorem cf189 : cFunc Tryz.prog (fun _ => false) (keepL keep189) Tryz.f189 = some af189 := by kernel_rfl
theorem good189 : Good Tryz.prog (189,af189) := ⟨_,_,_,Tryz.func189,cf189⟩
def keep190 : List (Nat × List Nat) := [(0,[0,3]),(1,[4])]
def af190 : AFunc := ⟨9,2,[.tmp 4],
  (.seq (rg [oq 3 (.box (tm 1)) [4]] [0,3])
  (.seq (rg [oq 6 (.addOff 0 (tm 3)) [8],ld 7 6,op 4 (.arith .eql .none (tm 0) (tm 7))] [4])
  .ret))⟩
theorem cf190 : cFunc Tryz.prog (fun _ => false) (keepL keep190) Tryz.f190 = some af190 := by kernel_rfl
theorem good190 : Good Tryz.prog (190,af190) := ⟨_,_,_,Tryz.func190,cf190⟩
def keep191 : List (Nat × List Nat) := [(0,[1,2]),(1,[1,2,3]),(2,[1,3]),(3,[])]
def af191 : AFunc := ⟨8,2,[],
  (.seq (rg [op 2 (.box (tm 0))] [1,2])
  (.seq (rg [op 3 (.alloc [.nilfunc])] [1,2,3])
  (.seq (rg [op 4 (.mkFunc 192 [] [(tm 2),(tm 3)]),on (.store 1 (tm 3) (tm 4))] [1,3])
  (rg [ld 5 3,op 6 (.load true 7 (tm 1)),op 7 (.call (.val (tm 5)) [(tm 6)])] []))))⟩
theorem cf191 : cFunc Tryz.prog (fun _ => false) (keepL keep191) Tryz.f191 = some af191 := by kernel_rfl
theorem good191 : Good Tryz.prog (191,af191) := ⟨_,_,_,Tryz.func191,cf191⟩
def keep192 : List (Nat × List Nat) := [(0,[1,2,3]),(1,[2,3,12]),(2,[4]),(3,[2,3,14,15,16]),(4,[2,3,14,15,16,17]),(5,[2,3,6,14,15,16]),(6,[2,3,14,15,16,23]),(7,[4]),(8,[2,3,14,15,16]),(9,[2,26,27,28]),(10,[2,26,27,28,29]),(11,[2,8,26,27,28]),(12,[2,26,27,28,36]),(13,[4]),(14,[2,26,27,28]),(15,[4])]
def lp192_0 : ACode :=
  (.seq (rg [op 17 (.arith .lss .none (tm 16) (tm 15))] [2,3,14,15,16,17])
  (.seq (.cond (tm 17) .skip
  (.exit 0))
  (.seq (.block 1 (.seq (rg [op 18 (.indexAddrS 7 (tm 14) (tm 16)),op 19 (.load true 7 (tm 18)),op 6 (.alloc z7a),on (.store 7 (tm 6) (tm 19))] [2,3,6,14,15,16])
  (.seq (rg [ld 20 2,op 21 (.load true 7 (tm 6)),op 22 (.call (.val (tm 20)) [(tm 21)]),op 23 (.not (tm 22))] [2,3,14,15,16,23])
  (.cond (tm 23) (.seq (rg [op 4 (.mv (.lit (.bool false)))] [4])
  .ret)
  .skip))))
  (rg [oq 16 (.arith .add .none (tm 16) (zi 1)) [24]] [2,3,14,15,16]))))
def lp192_1 : ACode :=
  (.seq (rg [op 29 (.arith .lss .none (tm 28) (tm 27))] [2,26,27,28,29])
  (.seq (.cond (tm 29) .skip
  (.exit 2))
  (.seq (.block 3 (.seq (rg [op 30 (.indexAddrS 9 (tm 26) (tm 28)),op 31 (.load true 9 (tm 30)),op 8 (.alloc z9a),on (.store 9 (tm 8) (tm 31))] [2,8,26,27,28])
  (.seq (rg [ld 32 2,ao 33 2 8,op 34 (.load true 7 (tm 33)),op 35 (.call (.val (tm 32)) [(tm 34)]),op 36 (.not (tm 35))] [2,26,27,28,36])
  (.cond (tm 36) (.seq (rg [op 4 (.mv (.lit (.bool false)))] [4])
  .ret)
  .skip))))
  (rg [oq 28 (.arith .add .none (tm 28) (zi 1)) [37]] [2,26,27,28]))))
def af192 : AFunc := ⟨38,3,[.tmp 4],
  (.seq (rg [oq 3 (.box (tm 0)) [4]] [1,2,3])
  (.seq (.seq (rg [ld 9 1,op 10 (.load true 7 (tm 3)),op 11 (.call (.val (tm 9)) [(tm 10)]),op 12 (.not (tm 11))] [2,3,12])
  (.cond (tm 12) (.seq (rg [op 4 (.mv (.lit (.bool false)))] [4])
  .ret)
  .skip))
  (.seq (.seq (rg [ao 13 5 3,ld 14 13,op 15 (.len false (tm 14)),op 16 (.mv (zi 0))] [2,3,14,15,16])
  (.block 0 (.loop lp192_0)))
  (.seq (.seq (rg [ao 25 6 3,ld 26 25,op 27 (.len false (tm 26)),op 28 (.mv (zi 0))] [2,26,27,28])
  (.block 2 (.loop lp192_1)))
  (.seq (rg [op 4 (.mv (.lit (.bool true)))] [4])
  .ret)))))⟩
theorem cf192 : cFunc Tryz.prog (fun _ => false) (keepL keep192) Tryz.f192 = some af192 := by kernel_rfl
theorem good192 : Good Tryz.prog (192,af192) := ⟨_,_,_,Tryz.func192,cf192⟩
def keep197 : List (Nat × List Nat) := [(0,[0,1]),(1,[0,1,7,8]),(2,[0,1,7,8,9]),(3,[0,1,5,7,8]),(4,[0,1,5,7,8,16]),(5,[4]),(6,[0,1,7,8]),(7,[4])]
def lp197_0 : ACode :=
  (.seq (rg [op 9 (.arith .lss .none (tm 8) (tm 7))] [0,1,7,8,9])
  (.seq (.cond (tm 9) .skip
  (.exit 0))
  (.seq (.block 1 (.seq (rg [oq 5 (.mv (tm 8)) [10]] [0,1,5,7,8])
  (.seq (rg [oq 14 (.indexAddrS 6 (tm 0) (tm 5)) [16],op 15 (.load true 6 (tm 14)),op 16 (.call (.val (tm 1)) [(tm 15)])] [0,1,5,7,8,16])
  (.cond (tm 16) (.seq (rg [oq 4 (.mv (tm 5)) [17]] [4])
  .ret)
  .skip))))
  (rg [oq 8 (.arith .add .none (tm 8) (zi 1)) [18]] [0,1,7,8]))))
def af197 : AFunc := ⟨19,2,[.tmp 4],
  (.seq (rg [op 4 (.mv (tm 4))] [0,1])
  (.seq (.seq (rg [oq 7 (.len false (tm 0)) [8],op 8 (.mv (zi 0))] [0,1,7,8])
  (.block 0 (.loop lp197_0)))
  (.seq (rg [op 4 (.mv (zi (-1)))] [4])
  .ret)))⟩
theorem cf197 : cFunc Tryz.prog (fun _ => false) (keepL keep197) Tryz.f197 = some af197 := by kernel_rfl
theorem good197 : Good Tryz.prog (197,af197) := ⟨_,_,_,Tryz.func197,cf197⟩
def keep198 : List (Nat × List Nat) := [(0,[0,1,2]),(1,[6])]
def af198 : AFunc := ⟨15,3,[.tmp 6],
  (.seq (rg [op 6 (.mv (tm 6))] [0,1,2])
  (.seq (rg [oq 10 (.arith .leq .none (tm 1) (tm 0)) [14],⟨(some 11),.mv (tm 0),(some (10,true)),[]⟩,⟨(some 12),.mv (tm 2),(some (10,true)),[]⟩,⟨(some 13),.arith .leq .none (tm 11) (tm 12),(some (10,true)),[]⟩,op 6 (.pick (tm 10) (tm 13) (.lit (.bool false)))] [6])
  .ret))⟩
theorem cf198 : cFunc Tryz.prog (fun _ => false) (keepL keep198) Tryz.f198 = some af198 := by kernel_rfl
theorem good198 : Good Tryz.prog (198,af198) := ⟨_,_,_,Tryz.func198,cf198⟩
def keep199 : List (Nat × List Nat) := [(0,[0]),(1,[4]),(2,[4,5]),(4,[4,7]),(6,[9]),(7,[2,3]),(5,[2,3]),(3,[2,3]),(8,[2,3])]
def af199 : AFunc := ⟨11,1,[.tmp 2,.tmp 3],
  (.seq (rg [op 3 (.mv (tm 3))] [0])
  (.seq (.seq (rg [op 4 (.mv (tm 0))] [4])
  (.block 0 (.seq (rg [oq 5 (.arith .eql .none (tm 4) (.lit (.str [73,110,116]))) [6]] [4,5])
  (.cond (tm 5) (.seq (rg [op 2 (.mv (zi 2)),op 3 (.mv (.lit (.bool true)))] [2,3])
  .ret)
  (.seq (rg [oq 7 (.arith .eql .none (tm 4) (.lit (.str [66,111,111,108]))) [8]] [4,7])
  (.cond (tm 7) (.seq (rg [op 2 (.mv (zi 3)),op 3 (.mv (.lit (.bool true)))] [2,3])
  .ret)
  (.seq (rg [oq 9 (.arith .eql .none (tm 4) (.lit (.str [85,110,105,116]))) [10]] [9])
  (.cond (tm 9) (.seq (rg [op 2 (.mv (zi 4)),op 3 (.mv (.lit (.bool true)))] [2,3])
  .ret)
  .skip))))))))
  (.seq (rg [op 2 (.mv (zi 0)),op 3 (.mv (.lit (.bool false)))] [2,3])
  .ret)))⟩
theorem cf199 : cFunc Tryz.prog (fun _ => false) (keepL keep199) Tryz.f199 = some af199 := by kernel_rfl
theorem good199 : Good Tryz.prog (199,af199) := ⟨_,_,_,Tryz.func199,cf199⟩
def keep200 : List (Nat × List Nat) := [(0,[1]),(1,[1,6,7,8]),(2,[1,6,7,8,9]),(3,[1,4,6,7,8]),(4,[1,4,6,7,8,12]),(6,[1,6,7,8,17]),(7,[2]),(5,[2]),(8,[1,6,7,8]),(9,[26]),(10,[2]),(11,[2])]
def lp200_0 : ACode :=
  (.seq (rg [op 9 (.arith .lss .none (tm 8) (tm 7))] [1,6,7,8,9])
  (.seq (.cond (tm 9) .skip
  (.exit 0))
  (.seq (.block 1 (.seq (rg [op 10 (.indexAddrS 2 (tm 6) (tm 8)),op 11 (.load true 2 (tm 10)),op 4 (.alloc [(.str []),(.int .i64 0)]),on (.store 2 (tm 4) (tm 11))] [1,4,6,7,8])
  (.block 2 (.seq (rg [oq 13 (.addOff 0 (tm 4)) [16],ld 14 13,op 15 (.call (.fn 143) [(tm 14),(zi 2)]),op 12 (.not (tm 15))] [1,4,6,7,8,12])
  (.cond (tm 12) (.seq (rg [op 2 (.mv (zi 4))] [2])
  .ret)
  (.seq (rg [oq 18 (.addOff 1 (tm 4)) [21],ld 19 18,op 20 (.call (.fn 198) [(tm 19),(zi 0),(zi 999999999)]),op 17 (.not (tm 20))] [1,6,7,8,17])
  (.cond (tm 17) (.seq (rg [op 2 (.mv (zi 1))] [2])
  .ret)
  .skip)))))))
  (rg [oq 8 (.arith .add .none (tm 8) (zi 1)) [22]] [1,6,7,8]))))
def af200 : AFunc := ⟨27,1,[.tmp 2],
  (.seq (rg [oq 1 (.box (tm 0)) [2]] [1])
  (.seq (.seq (rg [ao 5 0 1,ld 6 5,op 7 (.len false (tm 6)),op 8 (.mv (zi 0))] [1,6,7,8])
  (.block 0 (.loop lp200_0)))
  (.seq (.seq (rg [ao 23 1 1,ld 24 23,op 25 (.call (.fn 198) [(tm 24),(zi (-1)),(zi 999999999)]),op 26 (.not (tm 25))] [26])
  (.cond (tm 26) (.seq (rg [op 2 (.mv (zi 1))] [2])
  .ret)
  .skip))
  (.seq (rg [op 2 (.mv (zi 0))] [2])
  .ret))))⟩
theorem cf200 : cFunc Tryz.prog (fun _ => false) (keepL keep200) Tryz.f200 = some af200 := by kernel_rfl
theorem good200 : Good Tryz.prog (200,af200) := ⟨_,_,_,Tryz.func200,cf200⟩
def keep201 : List (Nat × List Nat) := [(0,[0,1]),(1,[0,1,7,8]),(2,[0,1,7,8,9]),(3,[0,1,5,7,8]),(4,[0,1,5,7,8,16]),(5,[4]),(6,[0,1,7,8]),(7,[4])]
def lp201_0 : ACode :=
  (.seq (rg [op 9 (.arith .lss .none (tm 8) (tm 7))] [0,1,7,8,9])
  (.seq (.cond (tm 9) .skip
  (.exit 0))
  (.seq (.block 1 (.seq (rg [oq 5 (.mv (tm 8)) [10]] [0,1,5,7,8])
  (.seq (rg [oq 14 (.indexAddrS 3 (tm 0) (tm 5)) [16],op 15 (.load true 3 (tm 14)),op 16 (.call (.val (tm 1)) [(tm 15)])] [0,1,5,7,8,16])
  (.cond (tm 16) (.seq (rg [oq 4 (.mv (tm 5)) [17]] [4])
  .ret)
  .skip))))
  (rg [oq 8 (.arith .add .none (tm 8) (zi 1)) [18]] [0,1,7,8]))))
def af201 : AFunc := ⟨19,2,[.tmp 4],
  (.seq (rg [op 4 (.mv (tm 4))] [0,1])
  (.seq (.seq (rg [oq 7 (.len false (tm 0)) [8],op 8 (.mv (zi 0))] [0,1,7,8])
  (.block 0 (.loop lp201_0)))
  (.seq (rg [op 4 (.mv (zi (-1)))] [4])
  .ret)))⟩
theorem cf201 : cFunc Tryz.prog (fun _ => false) (keepL keep201) Tryz.f201 = some af201 := by kernel_rfl
theorem good201 : Good Tryz.prog (201,af201) := ⟨_,_,_,Tryz.func201,cf201⟩
def keep202 : List (Nat × List Nat) := [(0,[0,2,3,4,10]),(1,[0,2,4,10,11]),(2,[0,2,4,10,11,20]),(3,[0,2,4,10,11,23]),(6,[0,2,4,10,11]),(7,[0,2,4,10,11]),(4,[0,2,4,10,11]),(5,[0,2,4,10,11]),(8,[])]
def lp202_0 : ACode :=
  (.seq (.seq (rg [oq 20 (.arith .neq .none (tm 10) (tm 11)) [20]] [0,2,4,10,11,20])
  (.cond (tm 20) .skip
  (.exit 0)))
  (.block 1 (.seq (rg [oq 23 (.arith .gtr .none (tm 10) (tm 11)) [23]] [0,2,4,10,11,23])
  (.cond (tm 23) (.seq (rg [oq 27 (.arith .sub .none (tm 2) (tm 10)) [31],op 31 (.call (.fn 212) [(tm 0),(tm 27),(tm 2),(tm 11),(tm 4)])] [0,2,4,10,11])
  (rg [oq 32 (.mv (tm 10)) [34],op 10 (.arith .sub .none (tm 32) (tm 11))] [0,2,4,10,11]))
  (.seq (rg [oq 38 (.arith .sub .none (tm 2) (tm 10)) [46],op 41 (.arith .add .none (tm 2) (tm 11)),op 43 (.arith .sub .none (tm 41) (tm 10)),op 46 (.call (.fn 212) [(tm 0),(tm 38),(tm 43),(tm 10),(tm 4)])] [0,2,4,10,11])
  (rg [oq 47 (.mv (tm 11)) [49],op 11 (.arith .sub .none (tm 47) (tm 10))] [0,2,4,10,11]))))))
def af202 : AFunc := ⟨58,5,[],
  (.seq (rg [oq 10 (.arith .sub .none (tm 2) (tm 1)) [14]] [0,2,3,4,10])
  (.seq (rg [oq 11 (.arith .sub .none (tm 3) (tm 2)) [17]] [0,2,4,10,11])
  (.seq (.block 0 (.loop lp202_0))
  (rg [oq 53 (.arith .sub .none (tm 2) (tm 10)) [57],op 57 (.call (.fn 212) [(tm 0),(tm 53),(tm 2),(tm 10),(tm 4)])] []))))⟩
theorem cf202 : cFunc Tryz.prog (fun _ => false) (keepL keep202) Tryz.f202 = some af202 := by kernel_rfl
theorem good202 : Good Tryz.prog (202,af202) := ⟨_,_,_,Tryz.func202,cf202⟩
def keep203 : List (Nat × List Nat) := [(0,[1,2]),(1,[1,2,5]),(2,[1,2,5,6,7]),(3,[1,2,5,6,7,18]),(5,[1,2,5,6,7,26]),(6,[1,2,5,6,7]),(4,[1,2,5,6,7]),(7,[1,2,5,6,39]),(8,[4]),(9,[1,2,5,48]),(10,[4]),(11,[1,2,5,8]),(12,[1,2,5,8,53]),(13,[4]),(14,[60]),(15,[4]),(16,[4])]
def af203 : AFunc := ⟨61,2,[.tmp 4],
  (.seq (rg [oq 2 (.box (tm 0)) [4]] [1,2])
  (.seq (rg [oq 9 (.addOff 6 (tm 2)) [13],ld 10 9,op 12 (.indexAddrS 9 (tm 10) (tm 1)),op 13 (.load true 9 (tm 12)),op 5 (.alloc z9a),on (.store 9 (tm 5) (tm 13))] [1,2,5])
  (.seq (dr [aq 14 1 5,lq 15 14,oq 16 (.len false (tm 15)) [15],oq 17 (.arith .eql .none (tm 16) (zi 2)) [16],op 6 (.mv (zi 1)),oq 7 (.mv (tm 17)) [17]] [0,1,3,7,0,31] [1,2,5,6,7])
  (.seq (.block 0 (.seq (rg [oq 19 (.addOff 0 (tm 2)) [21],ld 20 19,op 18 (.arith .eql .none (tm 20) (zi 11))] [1,2,5,6,7,18])
  (.cond (tm 18) (dr [aq 22 1 5,lq 23 22,oq 24 (.len false (tm 23)) [23],oq 25 (.arith .leq .none (tm 24) (zi 4)) [24],op 6 (.mv (zi 2)),oq 7 (.mv (tm 25)) [25]] [0,1,3,7,0,31] [1,2,5,6,7])
  (.seq (rg [oq 26 (.arith .eql .none (tm 1) (zi 0)) [28]] [1,2,5,6,7,26])
  (.cond (tm 26) (dr [aq 29 1 5,lq 30 29,oq 31 (.len false (tm 30)) [30],oq 32 (.arith .eql .none (tm 31) (zi 1)) [31],oq 33 (.mv (tm 32)) [32],⟨(some 34),.addOff 0 (tm 5),(some (33,true)),[5,33]⟩,⟨(some 35),.load false 1 (tm 34),(some (33,true)),[34,33]⟩,⟨(some 36),.arith .eql .none (tm 35) (.lit (.str [114,101,116,117,114,110])),(some (33,true)),[35,33]⟩,oq 37 (.pick (tm 33) (tm 36) (.lit (.bool false))) [33,36],op 6 (.mv (zi 0)),oq 7 (.mv (tm 37)) [37]] [0,1,3,7,15,31,63,127,255,31,1023] [1,2,5,6,7])
  .skip)))))
  (.seq (.seq (rg [oq 39 (.not (tm 7)) [39]] [1,2,5,6,39])
  (.cond (tm 39) (.seq (rg [op 4 (.mv (zi 7))] [4])
  .ret)
  .skip))
  (.seq (.seq (rg [oq 42 (.arith .neq .none (tm 6) (zi 0)) [48],⟨(some 43),.addOff 0 (tm 5),(some (42,true)),[]⟩,⟨(some 44),.load false 1 (tm 43),(some (42,true)),[]⟩,⟨(some 45),.mv (tm 6),(some (42,true)),[]⟩,⟨(some 46),.call (.fn 143) [(tm 44),(tm 45)],(some (42,true)),[]⟩,⟨(some 47),.not (tm 46),(some (42,true)),[]⟩,op 48 (.pick (tm 42) (tm 47) (.lit (.bool false)))] [1,2,5,48])
  (.cond (tm 48) (.seq (rg [op 4 (.mv (zi 4))] [4])
  .ret)
  .skip))
  (.seq (.seq (rg [oq 49 (.addOff 1 (tm 5)) [51],ld 50 49,op 8 (.call (.fn 182) [(tm 50),(zi 1)])] [1,2,5,8])
  (.seq (rg [oq 53 (.arith .neq .none (tm 8) (zi 0)) [53]] [1,2,5,8,53])
  (.cond (tm 53) (.seq (rg [oq 4 (.mv (tm 8)) [54]] [4])
  .ret)
  .skip)))
  (.seq (.seq (rg [oq 55 (.addOff 6 (tm 2)) [60],ld 56 55,op 58 (.sliceRow 9 (tm 56) none (some (tm 1)) none),op 59 (.mkFunc 214 [] [(tm 5)]),op 60 (.call (.fn 213) [(tm 58),(tm 59)])] [60])
  (.cond (tm 60) (.seq (rg [op 4 (.mv (zi 5))] [4])
  .ret)
  .skip))
  (.seq (rg [op 4 (.mv (zi 0))] [4])
  .ret)))))))))⟩
theorem cf203 : cFunc Tryz.prog (fun _ => false) (keepL keep203) Tryz.f203 = some af203 := by kernel_rfl
theorem good203 : Good Tryz.prog (203,af203) := ⟨_,_,_,Tryz.func203,cf203⟩
def keep208 : List (Nat × List Nat) := [(0,[1]),(1,[1,16]),(2,[2]),(3,[1,20]),(4,[2]),(5,[2])]
def af208 : AFunc := ⟨25,1,[.tmp 2],
  (.seq (rg [oq 1 (.box (tm 0)) [2]] [1])
  (.seq (.seq (rg [oq 3 (.addOff 0 (tm 1)) [16],ld 4 3,op 6 (.arith .eql .none (tm 4) (zi 0)),⟨(some 7),.addOff 0 (tm 1),(some (6,false)),[]⟩,⟨(some 8),.load false 1 (tm 7),(some (6,false)),[]⟩,⟨(some 9),.arith .eql .none (tm 8) (zi 5),(some (6,false)),[]⟩,⟨(some 10),.mv (tm 9),(some (6,false)),[]⟩,⟨(some 11),.addOff 4 (tm 1),(some (10,true)),[]⟩,⟨(some 12),.addOff 1 (tm 11),(some (10,true)),[]⟩,⟨(some 13),.load false 1 (tm 12),(some (10,true)),[]⟩,⟨(some 14),.arith .geq .none (tm 13) (zi 0),(some (10,true)),[]⟩,⟨(some 15),.pick (tm 10) (tm 14) (.lit (.bool false)),(some (6,false)),[]⟩,op 16 (.pick (tm 6) (.lit (.bool true)) (tm 15))] [1,16])
  (.cond (tm 16) (.seq (rg [op 2 (.mv (.lit (.bool false)))] [2])
  .ret)
  .skip))
  (.seq (.seq (rg [ao 17 4 1,ao 18 0 17,ld 19 18,op 20 (.call (.fn 215) [(tm 19),(.lit (.func 216 [] []))])] [1,20])
  (.cond (tm 20) (.seq (rg [op 2 (.mv (.lit (.bool false)))] [2])
  .ret)
  .skip))
  (.seq (rg [oq 21 (.addOff 3 (tm 1)) [24],ld 22 21,op 23 (.call (.fn 161) [(tm 22),(.lit (.func 217 [] []))]),op 2 (.not (tm 23))] [2])
  .ret))))⟩
theorem cf208 : cFunc Tryz.prog (fun _ => false) (keepL keep208) Tryz.f208 = some af208 := by kernel_rfl
theorem good208 : Good Tryz.prog (208,af208) := ⟨_,_,_,Tryz.func208,cf208⟩
def keep209 : List (Nat × List Nat) := [(0,[0,1]),(1,[0,20]),(2,[4]),(3,[22]),(4,[22,23,24]),(5,[6,22]),(6,[22,33]),(7,[4]),(8,[4])]
def lp209_0 : ACode :=
  (.seq (rg [op 23 (.nextStr (tm 22)),op 24 (.extract (tm 23) 0)] [22,23,24])
  (.seq (.cond (tm 24) .skip
  (.exit 0))
  (.block 1 (.seq (rg [oq 6 (.extract (tm 23) 2) [25]] [6,22])
  (.seq (rg [oq 28 (.arith .gtr .none (tm 6) (.lit (.int .i32 127))) [33],⟨(some 29),.mv (tm 6),(some (28,false)),[]⟩,⟨(some 30),.toInt .u8 (tm 29),(some (28,false)),[]⟩,⟨(some 31),.call (.fn 218) [(tm 30)],(some (28,false)),[]⟩,⟨(some 32),.arith .lss .none (tm 31) (zi 2),(some (28,false)),[]⟩,op 33 (.pick (tm 28) (.lit (.bool true)) (tm 32))] [22,33])
  (.cond (tm 33) (.seq (rg [op 4 (.mv (.lit (.bool false)))] [4])
  .ret)
  .skip))))))
def af209 : AFunc := ⟨34,2,[.tmp 4],
  (.seq (rg [op 4 (.mv (tm 4))] [0,1])
  (.seq (.seq (rg [oq 9 (.arith .eql .none (tm 0) (.lit (.str []))) [20],⟨(some 10),.mv (tm 0),(some (9,false)),[]⟩,⟨(some 11),.len true (tm 10),(some (9,false)),[]⟩,⟨(some 12),.arith .gtr .none (tm 11) (zi 12),(some (9,false)),[]⟩,op 14 (.pick (tm 9) (.lit (.bool true)) (tm 12)),⟨(some 15),.mv (tm 0),(some (14,false)),[]⟩,⟨(some 16),.indexStr (tm 15) (zi 0),(some (14,false)),[]⟩,⟨(some 17),.call (.fn 218) [(tm 16)],(some (14,false)),[]⟩,⟨(some 18),.mv (tm 1),(some (14,false)),[]⟩,⟨(some 19),.arith .neq .none (tm 17) (tm 18),(some (14,false)),[]⟩,op 20 (.pick (tm 14) (.lit (.bool true)) (tm 19))] [0,20])
  (.cond (tm 20) (.seq (rg [op 4 (.mv (.lit (.bool false)))] [4])
  .ret)
  .skip))
  (.seq (.seq (rg [oq 22 (.rangeStr (tm 0)) [22]] [22])
  (.block 0 (.loop lp209_0)))
  (.seq (rg [op 4 (.mv (.lit (.bool true)))] [4])
  .ret))))⟩
theorem cf209 : cFunc Tryz.prog (fun _ => false) (keepL keep209) Tryz.f209 = some af209 := by kernel_rfl
theorem good209 : Good Tryz.prog (209,af209) := ⟨_,_,_,Tryz.func209,cf209⟩
def keep210 : List (Nat × List Nat) := [(0,[0]),(1,[4]),(2,[2])]
def af210 : AFunc := ⟨12,1,[.tmp 2],
  (.seq (rg [op 2 (.mv (tm 2))] [0])
  (.seq (rg [oq 6 (.call (.fn 219) []) [10],op 5 (.lookup 2 (.int .i64 0) true (tm 6) (tm 0)),op 9 (.extract (tm 5) 0),op 10 (.extract (tm 5) 1),op 4 (.mv (tm 10))] [4])
  (.seq (rg [oq 2 (.mv (tm 4)) [11]] [2])
  .ret)))⟩
theorem cf210 : cFunc Tryz.prog (fun _ => false) (keepL keep210) Tryz.f210 = some af210 := by kernel_rfl
theorem good210 : Good Tryz.prog (210,af210) := ⟨_,_,_,Tryz.func210,cf210⟩
def keep212 : List (Nat × List Nat) := [(0,[0,1,2,3,10]),(1,[0,1,2,3,10,13]),(3,[0,1,2,3,10]),(2,[0,1,2,3,10])]
def lp212_0 : ACode :=
  (.seq (.seq (rg [oq 13 (.arith .lss .none (tm 10) (tm 3)) [13]] [0,1,2,3,10,13])
  (.cond (tm 13) .skip
  (.exit 0)))
  (.seq (.block 1 (dr [oq 16 (.mv (tm 0)) [0],oq 17 (.mv (tm 1)) [1],oq 18 (.mv (tm 10)) [10],oq 19 (.arith .add .none (tm 17) (tm 18)) [17,18],oq 20 (.mv (tm 0)) [0],oq 21 (.mv (tm 2)) [2],oq 22 (.mv (tm 10)) [10],oq 23 (.arith .add .none (tm 21) (tm 22)) [21,22],oq 24 (.mv (tm 0)) [0],oq 25 (.mv (tm 2)) [2],oq 26 (.mv (tm 10)) [10],oq 27 (.arith .add .none (tm 25) (tm 26)) [25,26],oq 28 (.indexAddrS 7 (tm 24) (tm 27)) [24,27],oq 29 (.load true 7 (tm 28)) [28],oq 30 (.mv (tm 0)) [0],oq 31 (.mv (tm 1)) [1],oq 32 (.mv (tm 10)) [10],oq 33 (.arith .add .none (tm 31) (tm 32)) [31,32],oq 34 (.indexAddrS 7 (tm 30) (tm 33)) [30,33],oq 35 (.load true 7 (tm 34)) [34],oq 36 (.indexAddrS 7 (tm 16) (tm 19)) [16,19],om (.store 7 (tm 36) (tm 29)) [36,29],oq 37 (.indexAddrS 7 (tm 20) (tm 23)) [20,23],om (.store 7 (tm 37) (tm 35)) [37,35]] [0,0,0,6,0,0,0,96,0,0,0,1536,3840,7936,0,0,0,98304,245760,507904,1048335,2096911,4194303,8388607] [0,1,2,3,10]))
  (rg [oq 14 (.mv (tm 10)) [15],op 10 (.arith .add .none (tm 14) (zi 1))] [0,1,2,3,10])))
def af212 : AFunc := ⟨38,5,[],
  (.seq (rg [op 10 (.mv (zi 0))] [0,1,2,3,10])
  (.block 0 (.loop lp212_0)))⟩
theorem cf212 : cFunc Tryz.prog (fun _ => false) (keepL keep212) Tryz.f212 = some af212 := by kernel_rfl
theorem good212 : Good Tryz.prog (212,af212) := ⟨_,_,_,Tryz.func212,cf212⟩
def keep213 : List (Nat × List Nat) := [(0,[0,1]),(1,[4])]
def af213 : AFunc := ⟨9,2,[.tmp 4],
  (.seq (rg [op 4 (.mv (tm 4))] [0,1])
  (.seq (rg [oq 7 (.call (.fn 220) [(tm 0),(tm 1)]) [8],op 4 (.arith .geq .none (tm 7) (zi 0))] [4])
  .ret))⟩
theorem cf213 : cFunc Tryz.prog (fun _ => false) (keepL keep213) Tryz.f213 = some af213 := by kernel_rfl
theorem good213 : Good Tryz.prog (213,af213) := ⟨_,_,_,Tryz.func213,cf213⟩
def keep214 : List (Nat × List Nat) := [(0,[1,2]),(1,[3])]
def af214 : AFunc := ⟨9,2,[.tmp 3],
  (.seq (rg [oq 2 (.box (tm 0)) [3]] [1,2])
  (.seq (rg [oq 4 (.addOff 0 (tm 2)) [8],ld 5 4,ao 6 0 1,ld 7 6,op 3 (.arith .eql .none (tm 5) (tm 7))] [3])
  .ret))⟩
theorem cf214 : cFunc Tryz.prog (fun _ => false) (keepL keep214) Tryz.f214 = some af214 := by kernel_rfl
theorem good214 : Good Tryz.prog (214,af214) := ⟨_,_,_,Tryz.func214,cf214⟩
def keep215 : List (Nat × List Nat) := [(0,[0,1]),(1,[4])]
def af215 : AFunc := ⟨9,2,[.tmp 4],
  (.seq (rg [op 4 (.mv (tm 4))] [0,1])
  (.seq (rg [oq 7 (.call (.fn 221) [(tm 0),(tm 1)]) [8],op 4 (.arith .geq .none (tm 7) (zi 0))] [4])
  .ret))⟩
theorem cf215 : cFunc Tryz.prog (fun _ => false) (keepL keep215) Tryz.f215 = some af215 := by kernel_rfl
theorem good215 : Good Tryz.prog (215,af215) := ⟨_,_,_,Tryz.func215,cf215⟩
def keep216 : List (Nat × List Nat) := [(0,[1]),(1,[2])]
def af216 : AFunc := ⟨6,1,[.tmp 2],
  (.seq (rg [oq 1 (.box (tm 0)) [2]] [1])
  (.seq (rg [oq 3 (.addOff 1 (tm 1)) [5],ld 4 3,op 2 (.arith .neq .none (tm 4) (zi 0))] [2])
  .ret))⟩
theorem cf216 : cFunc Tryz.prog (fun _ => false) (keepL keep216) Tryz.f216 = some af216 := by kernel_rfl
theorem good216 : Good Tryz.prog (216,af216) := ⟨_,_,_,Tryz.func216,cf216⟩
def keep217 : List (Nat × List Nat) := [(0,[1]),(1,[2])]
def af217 : AFunc := ⟨6,1,[.tmp 2],
  (.seq (rg [oq 1 (.box (tm 0)) [2]] [1])
  (.seq (rg [oq 3 (.load true 6 (tm 1)) [5],op 4 (.call (.fn 208) [(tm 3)]),op 2 (.not (tm 4))] [2])
  .ret))⟩
theorem cf217 : cFunc Tryz.prog (fun _ => false) (keepL keep217) Tryz.f217 = some af217 := by kernel_rfl
theorem good217 : Good Tryz.prog (217,af217) := ⟨_,_,_,Tryz.func217,cf217⟩
def keep218 : List (Nat × List Nat) := [(0,[0]),(1,[0,3]),(3,[0,14]),(5,[0,25]),(7,[32]),(8,[2]),(6,[2]),(4,[2]),(2,[2]),(9,[2])]
def af218 : AFunc := ⟨39,1,[.tmp 2],
  (.seq (rg [op 2 (.mv (tm 2))] [0])
  (.seq (.block 0 (.seq (rg [oq 6 (.arith .eql .none (tm 0) (.lit (.int .u8 32))) [13],⟨(some 7),.mv (tm 0),(some (6,false)),[]⟩,⟨(some 8),.arith .eql .none (tm 7) (.lit (.int .u8 9)),(some (6,false)),[]⟩,op 10 (.pick (tm 6) (.lit (.bool true)) (tm 8)),⟨(some 11),.mv (tm 0),(some (10,false)),[]⟩,⟨(some 12),.arith .eql .none (tm 11) (.lit (.int .u8 10)),(some (10,false)),[]⟩,op 3 (.pick (tm 10) (.lit (.bool true)) (tm 12))] [0,3])
  (.cond (tm 3) (.seq (rg [op 2 (.mv (zi 1))] [2])
  .ret)
  (.seq (rg [oq 17 (.arith .eql .none (tm 0) (.lit (.int .u8 95))) [24],⟨(some 18),.mv (tm 0),(some (17,false)),[]⟩,⟨(some 19),.arith .leq .none (.lit (.int .u8 97)) (tm 18),(some (17,false)),[]⟩,⟨(some 20),.mv (tm 19),(some (17,false)),[]⟩,⟨(some 21),.mv (tm 0),(some (20,true)),[]⟩,⟨(some 22),.arith .leq .none (tm 21) (.lit (.int .u8 122)),(some (20,true)),[]⟩,⟨(some 23),.pick (tm 20) (tm 22) (.lit (.bool false)),(some (17,false)),[]⟩,op 14 (.pick (tm 17) (.lit (.bool true)) (tm 23))] [0,14])
  (.cond (tm 14) (.seq (rg [op 2 (.mv (zi 2))] [2])
  .ret)
  (.seq (rg [oq 28 (.arith .leq .none (.lit (.int .u8 65)) (tm 0)) [31],⟨(some 29),.mv (tm 0),(some (28,true)),[]⟩,⟨(some 30),.arith .leq .none (tm 29) (.lit (.int .u8 90)),(some (28,true)),[]⟩,op 25 (.pick (tm 28) (tm 30) (.lit (.bool false)))] [0,25])
  (.cond (tm 25) (.seq (rg [op 2 (.mv (zi 3))] [2])
  .ret)
  (.seq (rg [oq 35 (.arith .leq .none (.lit (.int .u8 48)) (tm 0)) [38],⟨(some 36),.mv (tm 0),(some (35,true)),[]⟩,⟨(some 37),.arith .leq .none (tm 36) (.lit (.int .u8 57)),(some (35,true)),[]⟩,op 32 (.pick (tm 35) (tm 37) (.lit (.bool false)))] [32])
  (.cond (tm 32) (.seq (rg [op 2 (.mv (zi 4))] [2])
  .ret)
  .skip)))))))))
  (.seq (rg [op 2 (.mv (zi 0))] [2])
  .ret)))⟩
theorem cf218 : cFunc Tryz.prog (fun _ => false) (keepL keep218) Tryz.f218 = some af218 := by kernel_rfl
theorem good218 : Good Tryz.prog (218,af218) := ⟨_,_,_,Tryz.func218,cf218⟩
def keep219 : List (Nat × List Nat) := [(0,[]),(1,[1]),(2,[1,5,6,7]),(3,[1,5,6,7,8]),(4,[1,3,5,6,7]),(5,[1,5,6,7]),(6,[1,5,6,7]),(7,[0])]
def lp219_0 : ACode :=
  (.seq (rg [op 8 (.arith .lss .none (tm 7) (tm 6))] [1,5,6,7,8])
  (.seq (.cond (tm 8) .skip
  (.exit 0))
  (.seq (.block 1 (.seq (rg [oq 9 (.indexAddrS 1 (tm 5) (tm 7)) [10],ld 3 9] [1,3,5,6,7])
  (rg [om (.mapUpdate 2 (tm 1) (tm 3) (zi 1)) [12]] [1,5,6,7])))
  (rg [oq 7 (.arith .add .none (tm 7) (zi 1)) [13]] [1,5,6,7]))))
def af219 : AFunc := ⟨15,0,[.tmp 0],
  (.seq (rg [op 0 (.mv (tm 0))] [])
  (.seq (rg [oq 1 (.mkMap) [4]] [1])
  (.seq (.seq (rg [op 5 (.call (.fn 222) [(.lit (.str [102,117,110,32,108,101,116,32,114,101,99,32,105,110,32,105,102,32,116,104,101,110,32,101,108,115,101,32,109,97,116,99,104,32,100,111,32,104,97,110,100,108,101,32,115,104,97,108,108,111,119,32,110,97,109,101,100,32,109,97,115,107,32,117,115,105,110,103,32,99,108,111,115,101,32,114,101,115,117,109,101,32,100,114,111,112,32,114,101,116,117,114,110,32,116,114,117,101,32,102,97,108,115,101,32,100,97,116,97,32,101,102,102,101,99,116,32,111,110,99,101,32,100,101,102,32,109,97,105,110]))]),op 6 (.len false (tm 5)),op 7 (.mv (zi 0))] [1,5,6,7])
  (.block 0 (.loop lp219_0)))
  (.seq (rg [oq 0 (.mv (tm 1)) [14]] [0])
  .ret))))⟩
theorem cf219 : cFunc Tryz.prog (fun _ => false) (keepL keep219) Tryz.f219 = some af219 := by kernel_rfl
theorem good219 : Good Tryz.prog (219,af219) := ⟨_,_,_,Tryz.func219,cf219⟩
def keep220 : List (Nat × List Nat) := [(0,[0,1]),(1,[0,1,7,8]),(2,[0,1,7,8,9]),(3,[0,1,5,7,8]),(4,[0,1,5,7,8,16]),(5,[4]),(6,[0,1,7,8]),(7,[4])]
def lp220_0 : ACode :=
  (.seq (rg [op 9 (.arith .lss .none (tm 8) (tm 7))] [0,1,7,8,9])
  (.seq (.cond (tm 9) .skip
  (.exit 0))
  (.seq (.block 1 (.seq (rg [oq 5 (.mv (tm 8)) [10]] [0,1,5,7,8])
  (.seq (rg [oq 14 (.indexAddrS 9 (tm 0) (tm 5)) [16],op 15 (.load true 9 (tm 14)),op 16 (.call (.val (tm 1)) [(tm 15)])] [0,1,5,7,8,16])
  (.cond (tm 16) (.seq (rg [oq 4 (.mv (tm 5)) [17]] [4])
  .ret)
  .skip))))
  (rg [oq 8 (.arith .add .none (tm 8) (zi 1)) [18]] [0,1,7,8]))))
def af220 : AFunc := ⟨19,2,[.tmp 4],
  (.seq (rg [op 4 (.mv (tm 4))] [0,1])
  (.seq (.seq (rg [oq 7 (.len false (tm 0)) [8],op 8 (.mv (zi 0))] [0,1,7,8])
  (.block 0 (.loop lp220_0)))
  (.seq (rg [op 4 (.mv (zi (-1)))] [4])
  .ret)))⟩
theorem cf220 : cFunc Tryz.prog (fun _ => false) (keepL keep220) Tryz.f220 = some af220 := by kernel_rfl
theorem good220 : Good Tryz.prog (220,af220) := ⟨_,_,_,Tryz.func220,cf220⟩
def keep221 : List (Nat × List Nat) := [(0,[0,1]),(1,[0,1,7,8]),(2,[0,1,7,8,9]),(3,[0,1,5,7,8]),(4,[0,1,5,7,8,16]),(5,[4]),(6,[0,1,7,8]),(7,[4])]
def lp221_0 : ACode :=
  (.seq (rg [op 9 (.arith .lss .none (tm 8) (tm 7))] [0,1,7,8,9])
  (.seq (.cond (tm 9) .skip
  (.exit 0))
  (.seq (.block 1 (.seq (rg [oq 5 (.mv (tm 8)) [10]] [0,1,5,7,8])
  (.seq (rg [oq 14 (.indexAddrS 2 (tm 0) (tm 5)) [16],op 15 (.load true 2 (tm 14)),op 16 (.call (.val (tm 1)) [(tm 15)])] [0,1,5,7,8,16])
  (.cond (tm 16) (.seq (rg [oq 4 (.mv (tm 5)) [17]] [4])
  .ret)
  .skip))))
  (rg [oq 8 (.arith .add .none (tm 8) (zi 1)) [18]] [0,1,7,8]))))
def af221 : AFunc := ⟨19,2,[.tmp 4],
  (.seq (rg [op 4 (.mv (tm 4))] [0,1])
  (.seq (.seq (rg [oq 7 (.len false (tm 0)) [8],op 8 (.mv (zi 0))] [0,1,7,8])
  (.block 0 (.loop lp221_0)))
  (.seq (rg [op 4 (.mv (zi (-1)))] [4])
  .ret)))⟩
theorem cf221 : cFunc Tryz.prog (fun _ => false) (keepL keep221) Tryz.f221 = some af221 := by kernel_rfl
theorem good221 : Good Tryz.prog (221,af221) := ⟨_,_,_,Tryz.func221,cf221⟩
end Go.AI
namespace Go.AI
open Go Go.Proofs
set_option maxRecDepth 100000
def tabL : List (FuncId × AFunc) := [(11,af11),(14,af14),(15,af15),(16,af16),(17,af17),(18,af18),(19,af19),(20,af20),(22,af22),(24,af24),(26,af26),(30,af30),(32,af32),(34,af34),(36,af36),(38,af38),(40,af40),(46,af46),(47,af47),(48,af48),(49,af49),(50,af50),(51,af51),(52,af52),(53,af53),(55,af55),(56,af56),(57,af57),(58,af58),(59,af59),(60,af60),(61,af61),(62,af62),(63,af63),(64,af64),(65,af65),(66,af66),(67,af67),(68,af68),(69,af69),(70,af70),(74,af74),(75,af75),(76,af76),(77,af77),(78,af78),(79,af79),(80,af80),(81,af81),(82,af82),(87,af87),(88,af88),(89,af89),(90,af90),(92,af92),(93,af93),(94,af94),(95,af95),(96,af96),(98,af98),(100,af100),(108,af108),(110,af110),(111,af111),(112,af112),(113,af113),(114,af114),(115,af115),(116,af116),(117,af117),(118,af118),(119,af119),(124,af124),(125,af125),(126,af126),(127,af127),(128,af128),(129,af129),(130,af130),(131,af131),(138,af138),(139,af139),(140,af140),(141,af141),(142,af142),(143,af143),(144,af144),(145,af145),(146,af146),(147,af147),(148,af148),(149,af149),(150,af150),(161,af161),(162,af162),(163,af163),(164,af164),(165,af165),(166,af166),(170,af170),(171,af171),(172,af172),(173,af173),(174,af174),(175,af175),(182,af182),(183,af183),(184,af184),(185,af185),(186,af186),(187,af187),(188,af188),(189,af189),(190,af190),(191,af191),(192,af192),(197,af197),(198,af198),(199,af199),(200,af200),(201,af201),(202,af202),(203,af203),(208,af208),(209,af209),(210,af210),(212,af212),(213,af213),(214,af214),(215,af215),(216,af216),(217,af217),(218,af218),(219,af219),(220,af220),(221,af221)]
def tabT : FuncId → Option AFunc := findL tabL
theorem tabGood : ∀ x ∈ tabL,Good Tryz.prog x :=
  List.forall_mem_cons.2 ⟨good11,
  List.forall_mem_cons.2 ⟨good14,
  List.forall_mem_cons.2 ⟨good15,
  List.forall_mem_cons.2 ⟨good16,
  List.forall_mem_cons.2 ⟨good17,
  List.forall_mem_cons.2 ⟨good18,
  List.forall_mem_cons.2 ⟨good19,
  List.forall_mem_cons.2 ⟨good20,
  List.forall_mem_cons.2 ⟨good22,
  List.forall_mem_cons.2 ⟨good24,
  List.forall_mem_cons.2 ⟨good26,
  List.forall_mem_cons.2 ⟨good30,
  List.forall_mem_cons.2 ⟨good32,
  List.forall_mem_cons.2 ⟨good34,
  List.forall_mem_cons.2 ⟨good36,
  List.forall_mem_cons.2 ⟨good38,
  List.forall_mem_cons.2 ⟨good40,
  List.forall_mem_cons.2 ⟨good46,
  List.forall_mem_cons.2 ⟨good47,
  List.forall_mem_cons.2 ⟨good48,
  List.forall_mem_cons.2 ⟨good49,
  List.forall_mem_cons.2 ⟨good50,
  List.forall_mem_cons.2 ⟨good51,
  List.forall_mem_cons.2 ⟨good52,
  List.forall_mem_cons.2 ⟨good53,
  List.forall_mem_cons.2 ⟨good55,
  List.forall_mem_cons.2 ⟨good56,
  List.forall_mem_cons.2 ⟨good57,
  List.forall_mem_cons.2 ⟨good58,
  List.forall_mem_cons.2 ⟨good59,
  List.forall_mem_cons.2 ⟨good60,
  List.forall_mem_cons.2 ⟨good61,
  List.forall_mem_cons.2 ⟨good62,
  List.forall_mem_cons.2 ⟨good63,
  List.forall_mem_cons.2 ⟨good64,
  List.forall_mem_cons.2 ⟨good65,
  List.forall_mem_cons.2 ⟨good66,
  List.forall_mem_cons.2 ⟨good67,
  List.forall_mem_cons.2 ⟨good68,
  List.forall_mem_cons.2 ⟨good69,
  List.forall_mem_cons.2 ⟨good70,
  List.forall_mem_cons.2 ⟨good74,
  List.forall_mem_cons.2 ⟨good75,
  List.forall_mem_cons.2 ⟨good76,
  List.forall_mem_cons.2 ⟨good77,
  List.forall_mem_cons.2 ⟨good78,
  List.forall_mem_cons.2 ⟨good79,
  List.forall_mem_cons.2 ⟨good80,
  List.forall_mem_cons.2 ⟨good81,
  List.forall_mem_cons.2 ⟨good82,
  List.forall_mem_cons.2 ⟨good87,
  List.forall_mem_cons.2 ⟨good88,
  List.forall_mem_cons.2 ⟨good89,
  List.forall_mem_cons.2 ⟨good90,
  List.forall_mem_cons.2 ⟨good92,
  List.forall_mem_cons.2 ⟨good93,
  List.forall_mem_cons.2 ⟨good94,
  List.forall_mem_cons.2 ⟨good95,
  List.forall_mem_cons.2 ⟨good96,
  List.forall_mem_cons.2 ⟨good98,
  List.forall_mem_cons.2 ⟨good100,
  List.forall_mem_cons.2 ⟨good108,
  List.forall_mem_cons.2 ⟨good110,
  List.forall_mem_cons.2 ⟨good111,
  List.forall_mem_cons.2 ⟨good112,
  List.forall_mem_cons.2 ⟨good113,
  List.forall_mem_cons.2 ⟨good114,
  List.forall_mem_cons.2 ⟨good115,
  List.forall_mem_cons.2 ⟨good116,
  List.forall_mem_cons.2 ⟨good117,
  List.forall_mem_cons.2 ⟨good118,
  List.forall_mem_cons.2 ⟨good119,
  List.forall_mem_cons.2 ⟨good124,
  List.forall_mem_cons.2 ⟨good125,
  List.forall_mem_cons.2 ⟨good126,
  List.forall_mem_cons.2 ⟨good127,
  List.forall_mem_cons.2 ⟨good128,
  List.forall_mem_cons.2 ⟨good129,
  List.forall_mem_cons.2 ⟨good130,
  List.forall_mem_cons.2 ⟨good131,
  List.forall_mem_cons.2 ⟨good138,
  List.forall_mem_cons.2 ⟨good139,
  List.forall_mem_cons.2 ⟨good140,
  List.forall_mem_cons.2 ⟨good141,
  List.forall_mem_cons.2 ⟨good142,
  List.forall_mem_cons.2 ⟨good143,
  List.forall_mem_cons.2 ⟨good144,
  List.forall_mem_cons.2 ⟨good145,
  List.forall_mem_cons.2 ⟨good146,
  List.forall_mem_cons.2 ⟨good147,
  List.forall_mem_cons.2 ⟨good148,
  List.forall_mem_cons.2 ⟨good149,
  List.forall_mem_cons.2 ⟨good150,
  List.forall_mem_cons.2 ⟨good161,
  List.forall_mem_cons.2 ⟨good162,
  List.forall_mem_cons.2 ⟨good163,
  List.forall_mem_cons.2 ⟨good164,
  List.forall_mem_cons.2 ⟨good165,
  List.forall_mem_cons.2 ⟨good166,
  List.forall_mem_cons.2 ⟨good170,
  List.forall_mem_cons.2 ⟨good171,
  List.forall_mem_cons.2 ⟨good172,
  List.forall_mem_cons.2 ⟨good173,
  List.forall_mem_cons.2 ⟨good174,
  List.forall_mem_cons.2 ⟨good175,
  List.forall_mem_cons.2 ⟨good182,
  List.forall_mem_cons.2 ⟨good183,
  List.forall_mem_cons.2 ⟨good184,
  List.forall_mem_cons.2 ⟨good185,
  List.forall_mem_cons.2 ⟨good186,
  List.forall_mem_cons.2 ⟨good187,
  List.forall_mem_cons.2 ⟨good188,
  List.forall_mem_cons.2 ⟨good189,
  List.forall_mem_cons.2 ⟨good190,
  List.forall_mem_cons.2 ⟨good191,
  List.forall_mem_cons.2 ⟨good192,
  List.forall_mem_cons.2 ⟨good197,
  List.forall_mem_cons.2 ⟨good198,
  List.forall_mem_cons.2 ⟨good199,
  List.forall_mem_cons.2 ⟨good200,
  List.forall_mem_cons.2 ⟨good201,
  List.forall_mem_cons.2 ⟨good202,
  List.forall_mem_cons.2 ⟨good203,
  List.forall_mem_cons.2 ⟨good208,
  List.forall_mem_cons.2 ⟨good209,
  List.forall_mem_cons.2 ⟨good210,
  List.forall_mem_cons.2 ⟨good212,
  List.forall_mem_cons.2 ⟨good213,
  List.forall_mem_cons.2 ⟨good214,
  List.forall_mem_cons.2 ⟨good215,
  List.forall_mem_cons.2 ⟨good216,
  List.forall_mem_cons.2 ⟨good217,
  List.forall_mem_cons.2 ⟨good218,
  List.forall_mem_cons.2 ⟨good219,
  List.forall_mem_cons.2 ⟨good220,
  List.forall_mem_cons.2 ⟨good221,
  fun _ h => nomatch h⟩⟩⟩⟩⟩⟩⟩⟩⟩⟩⟩⟩⟩⟩⟩⟩⟩⟩⟩⟩⟩⟩⟩⟩⟩⟩⟩⟩⟩⟩⟩⟩⟩⟩⟩⟩⟩⟩⟩⟩⟩⟩⟩⟩⟩⟩⟩⟩⟩⟩⟩⟩⟩⟩⟩⟩⟩⟩⟩⟩⟩⟩⟩⟩⟩⟩⟩⟩⟩⟩⟩⟩⟩⟩⟩⟩⟩⟩⟩⟩⟩⟩⟩⟩⟩⟩⟩⟩⟩⟩⟩⟩⟩⟩⟩⟩⟩⟩⟩⟩⟩⟩⟩⟩⟩⟩⟩⟩⟩⟩⟩⟩⟩⟩⟩⟩⟩⟩⟩⟩⟩⟩⟩⟩⟩⟩⟩⟩⟩⟩⟩⟩⟩⟩⟩⟩
theorem tabR : TabR Tryz.prog tabT := fun f af h => findL_good tabL tabGood f af h
theorem tab11 : tabT 11 = some af11 := rfl
theorem tab14 : tabT 14 = some af14 := rfl
theorem tab32 : tabT 32 = some af32 := rfl
theorem tab34 : tabT 34 = some af34 := rfl
theorem tab36 : tabT 36 = some af36 := rfl
theorem tab38 : tabT 38 = some af38 := rfl
theorem tab52 : tabT 52 = some af52 := rfl
theorem tab55 : tabT 55 = some af55 := rfl
theorem tab56 : tabT 56 = some af56 := rfl
theorem tab58 : tabT 58 = some af58 := rfl
theorem tab59 : tabT 59 = some af59 := rfl
theorem tab60 : tabT 60 = some af60 := rfl
theorem tab80 : tabT 80 = some af80 := rfl
theorem tab82 : tabT 82 = some af82 := rfl
theorem tab89 : tabT 89 = some af89 := rfl
theorem tab90 : tabT 90 = some af90 := rfl
theorem tab92 : tabT 92 = some af92 := rfl
theorem tab93 : tabT 93 = some af93 := rfl
theorem tab94 : tabT 94 = some af94 := rfl
theorem tab95 : tabT 95 = some af95 := rfl
theorem tab96 : tabT 96 = some af96 := rfl
theorem tab98 : tabT 98 = some af98 := rfl
theorem tab110 : tabT 110 = some af110 := rfl
theorem tab111 : tabT 111 = some af111 := rfl
theorem tab112 : tabT 112 = some af112 := rfl
theorem tab113 : tabT 113 = some af113 := rfl
theorem tab114 : tabT 114 = some af114 := rfl
theorem tab117 : tabT 117 = some af117 := rfl
theorem tab130 : tabT 130 = some af130 := rfl
theorem tab131 : tabT 131 = some af131 := rfl
theorem tab139 : tabT 139 = some af139 := rfl
theorem tab140 : tabT 140 = some af140 := rfl
theorem tab141 : tabT 141 = some af141 := rfl
theorem tab142 : tabT 142 = some af142 := rfl
theorem tab143 : tabT 143 = some af143 := rfl
theorem tab144 : tabT 144 = some af144 := rfl
theorem tab145 : tabT 145 = some af145 := rfl
theorem tab146 : tabT 146 = some af146 := rfl
theorem tab147 : tabT 147 = some af147 := rfl
theorem tab148 : tabT 148 = some af148 := rfl
theorem tab149 : tabT 149 = some af149 := rfl
theorem tab150 : tabT 150 = some af150 := rfl
theorem tab161 : tabT 161 = some af161 := rfl
theorem tab162 : tabT 162 = some af162 := rfl
theorem tab163 : tabT 163 = some af163 := rfl
theorem tab164 : tabT 164 = some af164 := rfl
theorem tab165 : tabT 165 = some af165 := rfl
theorem tab172 : tabT 172 = some af172 := rfl
theorem tab173 : tabT 173 = some af173 := rfl
theorem tab174 : tabT 174 = some af174 := rfl
theorem tab175 : tabT 175 = some af175 := rfl
theorem tab182 : tabT 182 = some af182 := rfl
theorem tab183 : tabT 183 = some af183 := rfl
theorem tab184 : tabT 184 = some af184 := rfl
theorem tab185 : tabT 185 = some af185 := rfl
theorem tab186 : tabT 186 = some af186 := rfl
theorem tab187 : tabT 187 = some af187 := rfl
theorem tab188 : tabT 188 = some af188 := rfl
theorem tab189 : tabT 189 = some af189 := rfl
theorem tab190 : tabT 190 = some af190 := rfl
theorem tab191 : tabT 191 = some af191 := rfl
theorem tab192 : tabT 192 = some af192 := rfl
theorem tab197 : tabT 197 = some af197 := rfl
theorem tab198 : tabT 198 = some af198 := rfl
theorem tab199 : tabT 199 = some af199 := rfl
theorem tab200 : tabT 200 = some af200 := rfl
theorem tab201 : tabT 201 = some af201 := rfl
theorem tab203 : tabT 203 = some af203 := rfl
theorem tab208 : tabT 208 = some af208 := rfl
theorem tab209 : tabT 209 = some af209 := rfl
theorem tab210 : tabT 210 = some af210 := rfl
theorem tab213 : tabT 213 = some af213 := rfl
theorem tab214 : tabT 214 = some af214 := rfl
theorem tab215 : tabT 215 = some af215 := rfl
theorem tab216 : tabT 216 = some af216 := rfl
theorem tab217 : tabT 217 = some af217 := rfl
theorem tab218 : tabT 218 = some af218 := rfl
theorem tab219 : tabT 219 = some af219 := rfl
theorem tab220 : tabT 220 = some af220 := rfl
theorem tab221 : tabT 221 = some af221 := rfl
end Go.AI
namespace Go.AI
open Go Go.Proofs
set_option maxRecDepth 100000

theorem catch_idle (p : Addr) (w : World) :
    CallsD Tryz.prog 109 #[.pointer (some p)] .returning w fun e u' w' => e = .returned (.tuple #[]) ∧ u' = .returning ∧ w' = w := by
  refine callsD_of_wpS Tryz.func109 rfl fun c₀ cs hu => ?_
  apply wpS_seq
  apply wpS_region
  simp [wpOpsS, go_sem, recoverD, hu, Tryz.ntmps109, Exit.thenS]
  apply wpS_seq
  apply wpS_region
  simp [wpOpsS, go_sem, Exit.thenS, Act.put, Act.eval, Array.replicate]
  refine wpS_cond (t := false) (by simp [Act.eval, Array.replicate]) ?_
  simp only [Bool.false_eq_true, if_false]
  refine wpS_of_wp (wp_skip ?_)
  cases c₀
  simp_all [bodyPostS, results, Tryz.results109]

theorem run_assert (v : Value) (w : World) : (Instr.typeAssert (.iface 154 v) 20 154 true).run Tryz.prog w = .ok (.tuple #[v, .bool true]) w := by kernel_rfl

theorem catch_panicking (p : Addr) (x : Value) (n : Int) (older : List PanicEntry) (w : World) (hc : w.cell? p = some x) (hz : w.frozen? p = false) :
    CallsD Tryz.prog 109 #[.pointer (some p)] (.panicking ({ v := .iface 154 (.agg #[.int .i64 n]), recovered := false } :: older)) w fun e u' w' =>
      e = .returned (.tuple #[]) ∧ u' = .panicking ({ v := .iface 154 (.agg #[.int .i64 n]), recovered := true } :: older) ∧
      ∃ te, w' = (w.alloc (.cells #[.int .i64 n] te)).setCell p (.int .i64 n) := by
  refine callsD_of_wpS Tryz.func109 rfl fun c₀ cs hu => ?_
  apply wpS_seq
  apply wpS_region
  simp [wpOpsS, go_sem, recoverD, hu, Tryz.ntmps109, Exit.thenS]
  apply wpS_seq
  apply wpS_region
  simp [wpOpsS, go_sem, Exit.thenS, Act.put, Act.eval, Array.replicate]
  refine wpS_cond (t := true) (by simp [Act.eval, Array.replicate]) ?_
  simp only [if_true]
  apply wpS_seq
  apply wpS_region
  simp [wpOpsS, go_sem, run_assert, Exit.thenS, Act.put, Act.eval, Array.replicate]
  apply wpS_seq
  apply wpS_seq
  apply wpS_region
  simp [wpOpsS, go_sem, Exit.thenS, Act.put, Act.eval]
  refine wpS_cond (t := false) (by simp [Act.eval]) ?_
  simp only [Bool.false_eq_true, if_false]
  refine wpS_of_wp (wp_skip ?_)
  simp only [Exit.thenS]
  apply wpS_region
  have hp : p.block < w.heap.size := World.block_lt_of_cell? _ _ hc
  have hc' : ∀ o, (w.alloc o).cell? p = some x := fun o => (World.cell?_alloc_lt _ _ _ hp).trans hc
  have hz' : ∀ o, (w.alloc o).frozen? p = false := fun o => (World.frozen?_alloc_old _ _ _ (Nat.ne_of_lt hp)).trans hz
  simp [wpOpsS, go_sem, Act.put, Act.eval, hc', hz', bodyPostS, results, Tryz.results109]
  exact ⟨_, rfl⟩

/-- The function 'caught'. -/
theorem catchR {glob : Gl} (hg : ∀ f ty, glob.catches f = some ty → f = 54 ∧ ty = 154) : CatchR Tryz.prog glob := by
  intro f ty hf
  obtain ⟨rfl, rfl⟩ := hg f ty hf
  refine ⟨⟨_, Tryz.func54, by kernel_rfl, by kernel_rfl⟩, 34, fun g fa ca W Q hreal hcall hQ => ?_⟩
  have hmf : ∀ (fn : Fn) (first cap : Array Value) (w : World), (Instr.makeFunc fn first cap).run Tryz.prog w = .ok (.func fn first cap) w := fun _ _ _ _ => rfl
  refine calls_of_wp_defers Tryz.func54 rfl ?_
  apply wp_seq
  apply wp_region
  simp [wpOps, go_sem, Exit.then, Act.put, Act.eval, Tryz.ntmps54]
  left
  apply wp_seq
  apply wp_region
  simp [wpOps, go_sem, hmf, Exit.then, Act.put, Act.eval]
  left; left
  apply wp_seq
  apply wp_region
  simp [wpOps, go_sem, Exit.then, Act.put, Act.eval]
  left
  left
  obtain ⟨fn, hfn, hbn, hnn⟩ := hreal
  rw [callFunc_run hfn hbn hnn]
  refine Calls.mono (R := Q) hcall fun en w1 hq => ?_
  obtain ⟨⟨y, t, hcell⟩, hen⟩ := hQ en w1 hq
  have hc1 : w1.cell? ⟨W.heap.size, 0, none⟩ = some y := by simp [World.cell?, hcell]
  have hz1 : w1.frozen? ⟨W.heap.size, 0, none⟩ = false := by simp [World.frozen?, hcell]
  have hset : ∀ (w : World) (v : Value), w.heap[W.heap.size]? = some (.cells #[y] t) → w.setCell ⟨W.heap.size, 0, none⟩ v = w.setRow W.heap.size #[v] := fun w v h => by
    have hlt := (Array.getElem?_eq_some_iff.1 h).1
    have hv := (Array.getElem?_eq_some_iff.1 h).2
    unfold World.setCell World.setRow
    congr 1
    apply Array.ext_getElem?
    intro i
    simp only [Array.getElem?_modify]
    split
    · rename_i hi
      subst hi
      rw [h]
      simp
    · rfl
  rcases hen with ⟨v, rfl⟩ | ⟨n, rfl⟩
  · simp [Act.put]
    apply wp_seq
    apply wp_region
    simp [wpOps, go_sem, Exit.then, Act.put, Act.eval, hc1, hz1]
    left
    refine wp_ret ?_
    simp only [bodyPostD]
    refine leaves_cons (f := 109) (args := #[.pointer (some ⟨W.heap.size, 0, none⟩)]) (by simp) (by simp [go_sem]) ?_
    refine (catch_idle ⟨W.heap.size, 0, none⟩ _).mono ?_
    rintro e u' w'' ⟨rfl, rfl, rfl⟩
    have hc2 : (w1.setCell ⟨W.heap.size, 0, none⟩ (.int .i64 0)).cell? ⟨W.heap.size, 0, none⟩ = some (.int .i64 0) := by
      simp only [World.cell?, World.setCell, Array.getElem?_modify, if_true, hcell]
      simp
    exact ⟨.int .i64 0, by simp [results, Tryz.results54, go_sem, hc2], .returned v, w1, hq, w1, 0, rfl, ⟨Nat.le_refl _, rfl, rfl, rfl, fun _ _ => rfl⟩, hset _ _ hcell, .inl ⟨⟨v, rfl⟩, rfl⟩⟩
  · simp [Exit.then, bodyPostD]
    refine leaves_cons (f := 109) (args := #[.pointer (some ⟨W.heap.size, 0, none⟩)]) (by simp) (by simp [go_sem]) ?_
    refine (catch_panicking ⟨W.heap.size, 0, none⟩ y n [] _ hc1 hz1).mono ?_
    rintro e u' w'' ⟨rfl, rfl, te, rfl⟩
    have hlt : W.heap.size < w1.heap.size := (Array.getElem?_eq_some_iff.1 hcell).1
    have hcell2 : (w1.alloc (.cells #[.int .i64 n] te)).heap[W.heap.size]? = some (.cells #[y] t) := by rw [heap_alloc_old _ _ hlt]; exact hcell
    have hc2 : ((w1.alloc (.cells #[.int .i64 n] te)).setCell ⟨W.heap.size, 0, none⟩ (.int .i64 n)).cell? ⟨W.heap.size, 0, none⟩ = some (.int .i64 n) := by
      simp only [World.cell?, World.setCell, Array.getElem?_modify, if_true, hcell2]
      simp
    exact ⟨.int .i64 n, by simp [results, Tryz.results54, go_sem, hc2], .panicked [{ v := .iface 154 (.agg #[.int .i64 n]), recovered := false }], w1, hq, w1.alloc (.cells #[.int .i64 n] te), n, rfl,
      ⟨by simp, rfl, rfl, rfl, fun b hb => heap_alloc_old _ _ hb⟩, hset _ _ hcell2, .inr rfl⟩
end Go.AI
namespace Go.Proofs
open Go.Shelf
def Tryz.lays157_ren : Go.Shelf.Ren := ⟨fun | 157 => 222 | 229 => 223 | 199 => 224 | 261 => 225 | 311 => 226 | 312 => 227 | n => n, fun | 9 => 9 | 31 => 26 | 3 => 3 | 5 => 5 | 4 => 4 | 119 => 251 | 0 => 0 | 40 => 253 | 152 => 254 | 21 => 21 | 154 => 256 | 51 => 257 | 141 => 259 | 196 => 263 | 193 => 260 | 198 => 266 | 49 => 264 | 194 => 261 | 201 => 269 | 226 => 271 | 46 => 229 | 227 => 272 | n => n, fun | 0 => 1 | 6 => 2 | n => n⟩
theorem Tryz.lays157 : Go.Proofs.Lays.n157 Tryz.prog Tryz.lays157_ren := {
  mixed := by kernel_rfl
  f157 := Tryz.func222.trans (congrArg some (by kernel_rfl))
  f199 := Tryz.func224.trans (congrArg some (by kernel_rfl))
  f229 := Tryz.func223.trans (congrArg some (by kernel_rfl))
  f261 := Tryz.func225.trans (congrArg some (by kernel_rfl))
  f311 := Tryz.func226.trans (congrArg some (by kernel_rfl))
  f312 := Tryz.func227.trans (congrArg some (by kernel_rfl))
  t0 := Tryz.underlying0
  a0 := Tryz.isAgg0
  z0 := Tryz.sizeOf0
  v0 := Tryz.zeroValue0
  t3 := Tryz.underlying3
  a3 := Tryz.isAgg3
  z3 := Tryz.sizeOf3
  v3 := Tryz.zeroValue3
  t4 := Tryz.underlying4
  a4 := Tryz.isAgg4
  z4 := Tryz.sizeOf4
  v4 := Tryz.zeroValue4
  t5 := Tryz.underlying5
  a5 := Tryz.isAgg5
  z5 := Tryz.sizeOf5
  v5 := Tryz.zeroValue5
  t9 := Tryz.underlying9
  a9 := Tryz.isAgg9
  z9 := Tryz.sizeOf9
  v9 := Tryz.zeroValue9
  t21 := Tryz.underlying21
  a21 := Tryz.isAgg21
  z21 := Tryz.sizeOf21
  v21 := Tryz.zeroValue21
  t31 := Tryz.underlying26
  a31 := Tryz.isAgg26
  z31 := Tryz.sizeOf26
  v31 := Tryz.zeroValue26
  t40 := Tryz.underlying253
  a40 := Tryz.isAgg253
  z40 := Tryz.sizeOf253
  v40 := Tryz.zeroValue253
  t46 := Tryz.underlying229
  a46 := Tryz.isAgg229
  z46 := Tryz.sizeOf229
  v46 := Tryz.zeroValue229
  t49 := Tryz.underlying264
  a49 := Tryz.isAgg264
  z49 := Tryz.sizeOf264
  v49 := Tryz.zeroValue264
  t51 := Tryz.underlying257
  a51 := Tryz.isAgg257
  z51 := Tryz.sizeOf257
  v51 := Tryz.zeroValue257
  t119 := Tryz.underlying251
  a119 := Tryz.isAgg251
  z119 := Tryz.sizeOf251
  t141 := Tryz.underlying259
  a141 := Tryz.isAgg259
  z141 := Tryz.sizeOf259
  v141 := Tryz.zeroValue259
  t152 := Tryz.underlying254
  a152 := Tryz.isAgg254
  z152 := Tryz.sizeOf254
  v152 := Tryz.zeroValue254
  t154 := Tryz.underlying256
  a154 := Tryz.isAgg256
  z154 := Tryz.sizeOf256
  v154 := Tryz.zeroValue256
  t193 := Tryz.underlying260
  a193 := Tryz.isAgg260
  z193 := Tryz.sizeOf260
  v193 := Tryz.zeroValue260
  t194 := Tryz.underlying261
  a194 := Tryz.isAgg261
  z194 := Tryz.sizeOf261
  v194 := Tryz.zeroValue261
  t196 := Tryz.underlying263
  a196 := Tryz.isAgg263
  z196 := Tryz.sizeOf263
  v196 := Tryz.zeroValue263
  t198 := Tryz.underlying266
  a198 := Tryz.isAgg266
  z198 := Tryz.sizeOf266
  v198 := Tryz.zeroValue266
  t201 := Tryz.underlying269
  a201 := Tryz.isAgg269
  z201 := Tryz.sizeOf269
  v201 := Tryz.zeroValue269
  t226 := Tryz.underlying271
  a226 := Tryz.isAgg271
  z226 := Tryz.sizeOf271
  v226 := Tryz.zeroValue271
  t227 := Tryz.underlying272
  a227 := Tryz.isAgg272
  z227 := Tryz.sizeOf272
  v227 := Tryz.zeroValue272
  g0 := by kernel_rfl
  g6 := by kernel_rfl }
open Go.RowKit Go.Lib in
/-- strings.Fields, the table by 'Lib.TabIs' (as strings.TrimSpace's contract). 'hg': the table's number, by its name: at a dump 'by kernel_rfl'. (LAID: no walk: one application.) -/
theorem Tryz.strings_Fields (s : ByteArray) (w : World) (hs : s.size < 4294967281) (hascii : ∀ (j : Nat) b, s.data.toList[j]? = some b → b.toNat < 128) (htab : Lib.TabIs Tryz.prog w "strings.asciiSpace" .u8 Lib.asciiSpaceTab) :
    Calls Tryz.prog 222 #[.string s] w fun e w' =>
      e = .returned (.slice (some ⟨w.heap.size, 0, none⟩) (Lib.fields s.data.toList).length (Lib.fields s.data.toList).length) ∧ w' = w.alloc (.cells ((Lib.fields s.data.toList).map fun l => Value.string ⟨l.toArray⟩).toArray 9) := Any.strings_Fields Tryz.lays157 (by kernel_rfl) (by kernel_rfl) s w hs hascii htab
end Go.Proofs
namespace Go.AI
open Go Go.Proofs

abbrev Bs := List UInt8
abbrev slD (l : List Bs) : D := .slice (l.map .str)

def sh (s t n m p q : Int) (a : Bool) (lo hi : Int) : List D := [.int .i64 s, .int .i64 t, .int .i64 n, .int .i64 m, .int .i64 p, .int .i64 q, .bool a, .int .i64 lo, .int .i64 hi]
/-- The shapes of nodes. -/
def shapes : List D := List.flatten [sh 1 0 0 0 0 0 false 0 0, sh 0 0 0 0 0 0 false (-999999999) 999999999, sh 0 0 0 0 0 0 false 0 1, sh 0 0 0 0 0 0 false 0 0, sh 0 0 1 0 1 0 false 0 0, sh 0 0 0 0 2 0 false 0 0,
  sh 0 0 1 0 2 0 false 0 0, sh 0 0 2 0 2 0 false 0 0, sh 0 0 0 0 3 0 false 0 0, sh 3 0 0 0 2 0 false 0 0, sh 2 0 0 0 0 4 false 0 0, sh 0 0 0 0 1 0 true 0 0, sh 1 0 0 0 1 0 false 0 0, sh 1 1 0 0 1 0 false 0 0,
  sh 2 0 0 0 1 0 true 0 1, sh 2 0 1 0 1 0 true 0 0, sh 2 0 0 0 1 0 false 0 0, sh 0 0 1 12 3 0 false 0 0, sh 1 0 0 0 1 0 false 0 0, sh 1 0 0 0 0 0 false 0 0]

def globT (g : Nat) : Option (List D) := if g = 0 then some shapes else if g = 1 then some (Lib.asciiSpaceTab.map (.int .u8)) else none
def catT (f : FuncId) : Option TypeId := if f = 54 then some 154 else none

/-- What is asked of what is known of the program. -/
structure IsG (G : Gl) : Prop where
  g : G.g = globT
  nat : G.nat = fun _ => none
  cat : G.catches = catT
  post : PostOK G

theorem treeL_int (k : IntKind) (l : List Int) : treeL (l.map (.int k)) = true := by
  induction l with
  | nil => rfl
  | cons a r ih => simp only [List.map_cons, treeL, ih, D.tree, Bool.and_self]

theorem IsG.tree {G : Gl} (h : IsG G) : GlobT G := by
  intro g cs hg
  rw [h.g] at hg
  simp only [globT] at hg
  split at hg
  · cases hg; decide
  · split at hg
    · cases hg; exact treeL_int _ _
    · cases hg

theorem IsG.natR {G : Gl} (h : IsG G) : NatR Tryz.prog G := by
  refine ⟨fun f g hf => ?_, catchR fun f ty hf => ?_⟩
  · rw [h.nat] at hf; cases hf
  · rw [h.cat] at hf
    unfold catT at hf
    split at hf
    · cases hf; exact ⟨by assumption, rfl⟩
    · cases hf

theorem mixed : Tryz.prog.follows .mixedOrders = true := by kernel_rfl

/-- A table that is known. -/
theorem tab_of_glob {G : Gl} {W : World} {fx : Nat → Prop} (hG : GlobR (bare fx) W G) {name : String} {g : Nat} {k : IntKind} {zs : List Int} (hg : Tryz.prog.globalNamed name = some g) (hgl : G.g g = some (zs.map (.int k))) :
    Lib.TabIs Tryz.prog W name k zs := by
  obtain ⟨h1, c, ty, fz, hb, hs⟩ := hG g _ hgl
  unfold Lib.TabIs World.var?
  rw [hg]
  simp only [Option.bind_some, hb, Option.some.injEq]
  cases h1 with
  | @tptr _ _ _ f hf hc hr =>
    apply Array.ext
    · rw [hs]; simp
    · intro i h1 h2
      have hi : i < (zs.map (D.int k)).length := by rw [← hs]; exact h1
      have hcell := hc i hi
      have hzi : i < zs.length := by simpa using hi
      have hrr := hr i (.int k zs[i]) (by simp [hzi])
      have hfi := hrr.int_inv
      rw [hfi] at hcell
      simp only [World.cell?, hb, Nat.zero_add] at hcell
      simp only [Array.getElem?_eq_getElem h1] at hcell
      have := Option.some.inj hcell
      rw [this]
      simp

theorem toList_mk (s : ByteArray) (l : List UInt8) (h : l = s.data.toList) : s = ⟨l.toArray⟩ := by
  subst h; simp

/-- Strings that lie in a new block. -/
theorem strs_R {fx' : Nat → Prop} {w : World} {l : List Bs} {b : Nat} (hb : fx' b) (hc : ∀ j, j < l.length → w.cell? ⟨b, j, none⟩ = some (.string ⟨(l.getD j []).toArray⟩)) :
    R (bare fx') w (slD l) (.slice (some ⟨b, 0, none⟩) l.length l.length) := by
  refine .slice (sz := 1) (f := fun i _ => .string ⟨(l.getD i []).toArray⟩) hb (by simp) (Nat.le_refl _) ?_ ?_ ?_
  · intro i e he
    obtain ⟨x, hx, rfl⟩ := List.mem_map.1 (List.mem_of_getElem? he)
    rfl
  · intro i j e d he hd
    have hi : i < l.length := by have := (List.getElem?_eq_some_iff.1 he).1; simpa using this
    obtain ⟨x, hx, rfl⟩ := List.mem_map.1 (List.mem_of_getElem? he)
    have hj : j = 0 := by have := (List.getElem?_eq_some_iff.1 hd).1; simp [D.cells] at this; omega
    subst hj
    simpa using hc i hi
  · intro i j e d he hd
    have hi : i < l.length := by have := (List.getElem?_eq_some_iff.1 he).1; simpa using this
    have hx : e = .str l[i] := by
      have := (List.getElem?_eq_some_iff.1 he).2
      simpa using this.symm
    subst hx
    have hj : j = 0 := by have := (List.getElem?_eq_some_iff.1 hd).1; simp [D.cells] at this; omega
    subst hj
    simp only [D.cells, List.getElem?_cons_zero, Option.some.injEq] at hd
    subst hd
    have : l.getD i [] = l[i] := by simp [List.getD, hi]
    simp only [this]
    exact R.str (ρ := bare fx') (W := w) ⟨l[i].toArray⟩

theorem str_args {ρ : Ren} {W : World} {l : Bs} {vs : Array Value} (h : Rs ρ W [.str l] vs) : vs = #[.string ⟨l.toArray⟩] := by
  obtain ⟨v, rfl⟩ : ∃ v, vs = #[v] := ⟨vs.getD 0 undef, by
    apply Array.ext
    · simp [h.1]
    · intro i h1 h2
      have : i = 0 := by simp at h2; omega
      subst this; simp [Array.getD, h1]⟩
  have := h.2 0 _ rfl
  obtain ⟨s, hs, hl⟩ := (show R ρ W (.str l) v from this).str_inv
  rw [hs, toList_mk s l hl]

def asciiB (l : Bs) : Bool := l.all fun b => decide (b.toNat < 128)

def g222 : List D → Option D
  | [.str l] => if l.length < 4294967281 ∧ asciiB l = true then some (slD (Lib.fields l)) else none
  | _ => none
theorem treeL_strs (l : List Bs) : treeL (l.map .str) = true := by
  induction l with
  | nil => rfl
  | cons a r ih => simp only [List.map_cons, treeL, ih, D.tree, Bool.and_self]
theorem pure222 {G : Gl} (hGl : IsG G) (args : List D) (r : D) (_ht : treeL args = true) (h : g222 args = some r) : r.tree = true ∧ PureCall Tryz.prog G 222 args r := by
  clear _ht
  unfold g222 at h
  split at h
  · rename_i l
    split at h
    · rename_i hh
      cases h
      refine ⟨by simp [D.tree, treeL_strs], fun fx W vs hfx hG ha => ?_⟩
      rw [str_args ha]
      refine (Tryz.strings_Fields ⟨l.toArray⟩ W (by simpa [ByteArray.size] using hh.1) (fun j b hb => ?_) (tab_of_glob (g := 1) hG (by kernel_rfl) (by rw [hGl.g]; rfl))).mono ?_
      · have hm : b ∈ l := by
          have := List.mem_of_getElem? hb
          simpa using this
        have := List.all_eq_true.1 hh.2 b hm
        simpa using this
      · rintro e w ⟨rfl, rfl⟩
        have hb0 := (RowKit.Below.refl W.heap.size W).alloc (Nat.le_refl _) (.cells ((Lib.fields (⟨l.toArray⟩ : ByteArray).data.toList).map fun l => Value.string ⟨l.toArray⟩).toArray 9)
        refine ⟨fun b => fx b ∨ b = W.heap.size, _, rfl, fun b hb => .inl hb, fun b hb => ?_, fun b hb => hb0.block b hb, hb0.size, rfl, rfl, rfl, ?_⟩
        · rcases hb with hb | rfl
          · exact .inl hb
          · refine .inr ⟨Nat.le_refl _, ?_⟩
            show W.heap.size < (W.heap.push _).size
            simp
        · refine strs_R (.inr rfl) fun j hj => ?_
          have hj' : j < (Lib.fields l).length := hj
          rw [World.cell?_alloc_new]
          simp [List.getD, hj']
    · cases h
  · cases h
theorem real222 : Real Tryz.prog 222 := ⟨_, Tryz.func222, by kernel_rfl, by kernel_rfl⟩
end Go.AI
namespace Go.AI
open Go Go.Proofs
set_option maxRecDepth 100000
def qC (f : FuncId) : Bool := [117, 128, 36, 38, 14, 40, 20, 22, 26].contains f
def GC : Gl := { g := globT, nat := fun _ => none, catches := catT, query := qC, post := postC qC }
theorem isGC : IsG GC := ⟨rfl, rfl, rfl, postC_ok rfl⟩
def X0 : ExtL := [(222, g222)]
theorem extR0 : ExtR Tryz.prog GC (extOf X0) := ExtR.cons (L := []) (fun f g h => by cases h) real222 (pure222 isGC)
end Go.AI
namespace Go.AI
open Go Go.Proofs
/-- A function more, by what it computes over fewer known functions. -/
theorem ExtR.over {L L' : ExtL} (hL : ExtR Tryz.prog GC (extOf L)) (hL' : ExtR Tryz.prog GC (extOf L')) {f : FuncId} {g : List D → Option D} (hf : Real Tryz.prog f)
    (h : ∀ args r, g args = some r → Comp tabT (extOf L) GC f args r) : ExtR Tryz.prog GC (extOf ((f, g) :: L')) := by
  refine hL'.cons hf fun args r ht hr => ?_
  obtain ⟨k, d, hd, rfl⟩ := h args r hr
  obtain ⟨_, h1, h2⟩ := pure_of_eval hL tabR isGC.tree isGC.natR isGC.post mixed hd
  exact ⟨D.weak_tree d h1, fun fx W vs hfx hG ha => (h2 fx W vs hfx hG ha).mono fun en w hw => hw.weak⟩
end Go.AI
namespace Go.AI
open Go Go.Proofs
set_option maxRecDepth 100000
abbrev j (n : Int) : D := .int .i64 n
abbrev o : D := .int .i64 0
abbrev n : D := .slice []
abbrev e : D := .str []
/-- A function that is known at some arguments. -/
def memo : List (List D × D) → List D → Option D
  | [], _ => none
  | (a, r) :: t, args => if eqbL a args then some r else memo t args
def isAt (X : Ext) (k : Nat) (f : FuncId) (p : List D × D) : Bool := match fnTree tabT X GC k f p.1 with
  | some d => d.weak.eqb p.2
  | none => false
theorem isAt_comp {X : Ext} {k : Nat} {f : FuncId} {p : List D × D} (h : isAt X k f p = true) : Comp tabT X GC f p.1 p.2 := by
  unfold isAt at h
  split at h
  · rename_i d hd; exact ⟨k, d, hd, D.eqb_eq _ _ h⟩
  · cases h
theorem memo_comp {X : Ext} {f : FuncId} : ∀ {l : List (List D × D)}, (∀ p ∈ l, Comp tabT X GC f p.1 p.2) → ∀ args r, memo l args = some r → Comp tabT X GC f args r
  | [], _, args, r, h => by cases h
  | (a, x) :: t, hl, args, r, h => by
    simp only [memo] at h
    split at h
    · rename_i heq
      cases h
      rw [← eqbL_eq a args heq]
      exact hl _ List.mem_cons_self
    · exact memo_comp (fun p hp => hl p (List.mem_cons_of_mem _ hp)) args r h
theorem all_comp {X : Ext} {f : FuncId} {k : Nat} {l : List (List D × D)} (h : l.all (isAt X k f) = true) : ∀ p ∈ l, Comp tabT X GC f p.1 p.2 := fun p hp => isAt_comp (List.all_eq_true.1 h p hp)
def exData : D := (.slice [(.agg [(.str [76, 105, 115, 116]), (.slice [(.str [97])]), (.slice [(.agg [(.str [78, 105, 108]), (.slice [])]), (.agg [(.str [67, 111, 110, 115]), (.slice [(.agg [(.int .i64 1), (.int .i64 0), (.str [97]), (.slice []), (.slice []), (.int .i64 0)]), (.agg [(.int .i64 6), (.int .i64 0), (.str [76, 105, 115, 116]), (.slice [(.agg [(.int .i64 1), (.int .i64 0), (.str [97]), (.slice []), (.slice []), (.int .i64 0)])]), (.slice []), (.int .i64 0)])])])])]), (.agg [(.str [86, 111, 105, 100]), (.slice []), (.slice [])]), (.agg [(.str [84, 114, 101, 101]), (.slice []), (.slice [(.agg [(.str [76, 101, 97, 102]), (.slice [])]), (.agg [(.str [78, 111, 100, 101]), (.slice [(.agg [(.int .i64 6), (.int .i64 0), (.str [84, 114, 101, 101]), (.slice []), (.slice []), (.int .i64 0)]), (.agg [(.int .i64 2), (.int .i64 0), (.str []), (.slice []), (.slice []), (.int .i64 0)]), (.agg [(.int .i64 6), (.int .i64 0), (.str [84, 114, 101, 101]), (.slice []), (.slice []), (.int .i64 0)])])])])]), (.agg [(.str [76, 111, 111, 112]), (.slice []), (.slice [(.agg [(.str [77, 111, 114, 101]), (.slice [(.agg [(.int .i64 6), (.int .i64 0), (.str [76, 111, 111, 112]), (.slice []), (.slice []), (.int .i64 0)])])])])])])
def exEff : D := (.slice [(.agg [(.str [83, 116, 97, 116, 101]), (.slice [(.agg [(.str [103, 101, 116]), (.int .i64 4), (.int .i64 0), (.str []), (.slice []), (.slice []), (.int .i64 0), (.int .i64 2), (.int .i64 0), (.str []), (.slice []), (.slice []), (.int .i64 0), (.bool false)]), (.agg [(.str [112, 117, 116]), (.int .i64 2), (.int .i64 0), (.str []), (.slice []), (.slice []), (.int .i64 0), (.int .i64 4), (.int .i64 0), (.str []), (.slice []), (.slice []), (.int .i64 0), (.bool false)])])]), (.agg [(.str [69, 120, 99]), (.slice [(.agg [(.str [114, 97, 105, 115, 101]), (.int .i64 4), (.int .i64 0), (.str []), (.slice []), (.slice []), (.int .i64 0), (.int .i64 6), (.int .i64 0), (.str [86, 111, 105, 100]), (.slice []), (.slice []), (.int .i64 0), (.bool true)])])]), (.agg [(.str [73, 79]), (.slice [])])])
def m14 : List (List D × D) := [
  ([(.agg [exData, exEff, n, (j 3), o, e, e, n, n, n])], (j 5)),
  ([(.agg [exData, (.slice [(.agg [(.str [83, 116, 97, 116, 101]), (.slice [(.agg [(.str [103, 101, 116]), (j 4), o, e, n, n, o, (j 2), o, e, n, n, o, (.bool false)]), (.agg [(.str [112, 117, 116]), (j 2), o, e, n, n, o, (j 4), o, e, n, n, o, (.bool false)])])]), (.agg [(.str [69, 120, 99]), (.slice [(.agg [(.str [114, 97, 105, 115, 101]), (j 4), o, e, n, n, o, (j 6), o, (.str [86, 111, 105, 100]), n, n, o, (.bool true)])])])]), n, (j 3), o, e, e, n, n, n])], o)]
def m15 : List (List D × D) := [
  ([(.agg [exData, (.slice [(.agg [(.str [83, 116, 97, 116, 101]), (.slice [(.agg [(.str [103, 101, 116]), (j 4), o, e, n, n, o, (j 2), o, e, n, n, o, (.bool false)]), (.agg [(.str [112, 117, 116]), (j 2), o, e, n, n, o, (j 4), o, e, n, n, o, (.bool false)])])]), (.agg [(.str [69, 120, 99]), (.slice [(.agg [(.str [114, 97, 105, 115, 101]), (j 4), o, e, n, n, o, (j 6), o, (.str [86, 111, 105, 100]), n, n, o, (.bool true)])])])]), n, (j 3), o, e, e, n, n, n]), (.str [67, 111, 110, 115]), (.slice [(.agg [(j 3), o, e, n, n, o])])], (.tuple [(.slice [(.agg [(j 3), o, e, n, n, o]), (.agg [(j 6), o, (.str [76, 105, 115, 116]), (.slice [(.agg [(j 3), o, e, n, n, o])]), n, o])]), o]))]
def m20 : List (List D × D) := [
  ([(.agg [exData, (.slice [(.agg [(.str [83, 116, 97, 116, 101]), (.slice [(.agg [(.str [103, 101, 116]), (j 4), o, e, n, n, o, (j 2), o, e, n, n, o, (.bool false)]), (.agg [(.str [112, 117, 116]), (j 2), o, e, n, n, o, (j 4), o, e, n, n, o, (.bool false)])])]), (.agg [(.str [69, 120, 99]), (.slice [(.agg [(.str [114, 97, 105, 115, 101]), (j 4), o, e, n, n, o, (j 6), o, (.str [86, 111, 105, 100]), n, n, o, (.bool true)])])])]), n, (j 3), o, e, e, n, n, n]), (.agg [(j 6), o, (.str [76, 105, 115, 116]), (.slice [(.agg [(j 6), o, (.str [86, 111, 105, 100]), n, n, o])]), n, o])], (.tuple [(.bool true), o])),
  ([(.agg [exData, (.slice [(.agg [(.str [83, 116, 97, 116, 101]), (.slice [(.agg [(.str [103, 101, 116]), (j 4), o, e, n, n, o, (j 2), o, e, n, n, o, (.bool false)]), (.agg [(.str [112, 117, 116]), (j 2), o, e, n, n, o, (j 4), o, e, n, n, o, (.bool false)])])]), (.agg [(.str [69, 120, 99]), (.slice [(.agg [(.str [114, 97, 105, 115, 101]), (j 4), o, e, n, n, o, (j 6), o, (.str [86, 111, 105, 100]), n, n, o, (.bool true)])])])]), n, (j 3), o, e, e, n, n, n]), (.agg [(j 6), o, (.str [86, 111, 105, 100]), n, n, o])], (.tuple [(.bool false), o]))]
def m22 : List (List D × D) := [
  ([(.agg [exData, (.slice [(.agg [(.str [83, 116, 97, 116, 101]), (.slice [(.agg [(.str [103, 101, 116]), (j 4), o, e, n, n, o, (j 2), o, e, n, n, o, (.bool false)]), (.agg [(.str [112, 117, 116]), (j 2), o, e, n, n, o, (j 4), o, e, n, n, o, (.bool false)])])]), (.agg [(.str [69, 120, 99]), (.slice [(.agg [(.str [114, 97, 105, 115, 101]), (j 4), o, e, n, n, o, (j 6), o, (.str [86, 111, 105, 100]), n, n, o, (.bool true)])])])]), n, (j 3), o, e, e, n, n, n]), (.agg [(j 6), o, (.str [76, 105, 115, 116]), (.slice [(.agg [(j 3), o, e, n, n, o])]), n, o]), (j 5)], (.tuple [(j 7), o])),
  ([(.agg [exData, (.slice [(.agg [(.str [83, 116, 97, 116, 101]), (.slice [(.agg [(.str [103, 101, 116]), (j 4), o, e, n, n, o, (j 2), o, e, n, n, o, (.bool false)]), (.agg [(.str [112, 117, 116]), (j 2), o, e, n, n, o, (j 4), o, e, n, n, o, (.bool false)])])]), (.agg [(.str [69, 120, 99]), (.slice [(.agg [(.str [114, 97, 105, 115, 101]), (j 4), o, e, n, n, o, (j 6), o, (.str [86, 111, 105, 100]), n, n, o, (.bool true)])])])]), n, (j 3), o, e, e, n, n, n]), (.agg [(j 6), o, (.str [76, 105, 115, 116]), (.slice [(.agg [(j 5), o, e, (.slice [(.agg [(j 2), o, e, n, n, o]), (.agg [(j 2), o, e, n, n, o])]), n, (j (-1))])]), n, o]), (j 3)], (.tuple [o, (j 8)]))]
def m24 : List (List D × D) := [
  ([(.agg [exData, (.slice [(.agg [(.str [83, 116, 97, 116, 101]), (.slice [(.agg [(.str [103, 101, 116]), (j 4), o, e, n, n, o, (j 2), o, e, n, n, o, (.bool false)]), (.agg [(.str [112, 117, 116]), (j 2), o, e, n, n, o, (j 4), o, e, n, n, o, (.bool false)])])]), (.agg [(.str [69, 120, 99]), (.slice [(.agg [(.str [114, 97, 105, 115, 101]), (j 4), o, e, n, n, o, (j 6), o, (.str [86, 111, 105, 100]), n, n, o, (.bool true)])])])]), n, (j 3), o, e, e, n, n, n]), (.agg [(j 2), o, e, n, n, o]), (j 1)], (.tuple [(.slice [(.agg [(j 1), o, e, e, n, n, n]), (.agg [(j 1), (j 1), e, e, n, n, n])]), o]))]
def m26 : List (List D × D) := [
  ([(.agg [exData, (.slice [(.agg [(.str [83, 116, 97, 116, 101]), (.slice [(.agg [(.str [103, 101, 116]), (j 4), o, e, n, n, o, (j 2), o, e, n, n, o, (.bool false)]), (.agg [(.str [112, 117, 116]), (j 2), o, e, n, n, o, (j 4), o, e, n, n, o, (.bool false)])])]), (.agg [(.str [69, 120, 99]), (.slice [(.agg [(.str [114, 97, 105, 115, 101]), (j 4), o, e, n, n, o, (j 6), o, (.str [86, 111, 105, 100]), n, n, o, (.bool true)])])])]), n, (j 3), o, e, e, n, n, n]), (.agg [(j 6), o, (.str [76, 105, 115, 116]), (.slice [(.agg [(j 2), o, e, n, n, o])]), n, o]), (.agg [(j 10), o, (.str [67, 111, 110, 115]), e, n, (.slice [(.agg [(j 1), (j (-5)), e, e, n, n, n]), (.agg [(j 10), o, (.str [78, 105, 108]), e, n, n, n])]), n])], (.tuple [(.bool true), o]))]
def m30 : List (List D × D) := [
  ([(.agg [exData, (.slice [(.agg [(.str [83, 116, 97, 116, 101]), (.slice [(.agg [(.str [103, 101, 116]), (j 4), o, e, n, n, o, (j 2), o, e, n, n, o, (.bool false)]), (.agg [(.str [112, 117, 116]), (j 2), o, e, n, n, o, (j 4), o, e, n, n, o, (.bool false)])])]), (.agg [(.str [69, 120, 99]), (.slice [(.agg [(.str [114, 97, 105, 115, 101]), (j 4), o, e, n, n, o, (j 6), o, (.str [86, 111, 105, 100]), n, n, o, (.bool true)])])])]), n, (j 3), o, e, e, n, n, n]), (.str [76, 101, 97, 102])], (.tuple [(j 2), o, o]))]
def m32 : List (List D × D) := [
  ([(.agg [exData, (.slice [(.agg [(.str [83, 116, 97, 116, 101]), (.slice [(.agg [(.str [103, 101, 116]), (j 4), o, e, n, n, o, (j 2), o, e, n, n, o, (.bool false)]), (.agg [(.str [112, 117, 116]), (j 2), o, e, n, n, o, (j 4), o, e, n, n, o, (.bool false)])])]), (.agg [(.str [69, 120, 99]), (.slice [(.agg [(.str [114, 97, 105, 115, 101]), (j 4), o, e, n, n, o, (j 6), o, (.str [86, 111, 105, 100]), n, n, o, (.bool true)])])])]), n, (j 3), o, e, e, n, n, n]), (.str [114, 101, 97, 100])], (.tuple [(j (-1)), (j 1), o]))]
def m34 : List (List D × D) := [
  ([(.agg [exData, (.slice [(.agg [(.str [83, 116, 97, 116, 101]), (.slice [(.agg [(.str [103, 101, 116]), (j 4), o, e, n, n, o, (j 2), o, e, n, n, o, (.bool false)]), (.agg [(.str [112, 117, 116]), (j 2), o, e, n, n, o, (j 4), o, e, n, n, o, (.bool false)])])]), (.agg [(.str [69, 120, 99]), (.slice [(.agg [(.str [114, 97, 105, 115, 101]), (j 4), o, e, n, n, o, (j 6), o, (.str [86, 111, 105, 100]), n, n, o, (.bool true)])])])]), n, (j 3), o, e, e, n, n, n]), (.str [83, 116, 97, 116, 101])], (.tuple [o, o]))]
def m36 : List (List D × D) := [
  ([(.agg [exData, (.slice [(.agg [(.str [83, 116, 97, 116, 101]), (.slice [(.agg [(.str [103, 101, 116]), (j 4), o, e, n, n, o, (j 2), o, e, n, n, o, (.bool false)]), (.agg [(.str [112, 117, 116]), (j 2), o, e, n, n, o, (j 4), o, e, n, n, o, (.bool false)])])]), (.agg [(.str [69, 120, 99]), (.slice [(.agg [(.str [114, 97, 105, 115, 101]), (j 4), o, e, n, n, o, (j 6), o, (.str [86, 111, 105, 100]), n, n, o, (.bool true)])])])]), n, (j 3), o, e, e, n, n, n])], o)]
def m38 : List (List D × D) := [
  ([(.agg [exData, (.slice [(.agg [(.str [83, 116, 97, 116, 101]), (.slice [(.agg [(.str [103, 101, 116]), (j 4), o, e, n, n, o, (j 2), o, e, n, n, o, (.bool false)]), (.agg [(.str [112, 117, 116]), (j 2), o, e, n, n, o, (j 4), o, e, n, n, o, (.bool false)])])]), (.agg [(.str [69, 120, 99]), (.slice [(.agg [(.str [114, 97, 105, 115, 101]), (j 4), o, e, n, n, o, (j 6), o, (.str [86, 111, 105, 100]), n, n, o, (.bool true)])])])]), n, (j 3), o, e, e, n, n, n]), (.agg [(j 10), o, (.str [66, 111, 120]), e, n, n, n])], (j 6)),
  ([(.agg [exData, (.slice [(.agg [(.str [83, 116, 97, 116, 101]), (.slice [(.agg [(.str [103, 101, 116]), (j 4), o, e, n, n, o, (j 2), o, e, n, n, o, (.bool false)]), (.agg [(.str [112, 117, 116]), (j 2), o, e, n, n, o, (j 4), o, e, n, n, o, (.bool false)])])]), (.agg [(.str [69, 120, 99]), (.slice [(.agg [(.str [114, 97, 105, 115, 101]), (j 4), o, e, n, n, o, (j 6), o, (.str [86, 111, 105, 100]), n, n, o, (.bool true)])])])]), n, (j 3), o, e, e, n, n, n]), (.agg [(j 10), o, (.str [67, 111, 110, 115]), e, n, (.slice [(.agg [(j 1), (j 1), e, e, n, n, n])]), n])], (j 7)),
  ([(.agg [exData, (.slice [(.agg [(.str [83, 116, 97, 116, 101]), (.slice [(.agg [(.str [103, 101, 116]), (j 4), o, e, n, n, o, (j 2), o, e, n, n, o, (.bool false)]), (.agg [(.str [112, 117, 116]), (j 2), o, e, n, n, o, (j 4), o, e, n, n, o, (.bool false)])])]), (.agg [(.str [69, 120, 99]), (.slice [(.agg [(.str [114, 97, 105, 115, 101]), (j 4), o, e, n, n, o, (j 6), o, (.str [86, 111, 105, 100]), n, n, o, (.bool true)])])])]), n, (j 3), o, e, e, n, n, n]), (.agg [(j 11), o, e, e, n, (.slice [(.agg [(j 1), (j 1), e, e, n, n, n])]), (.slice [(.agg [(.str [67, 111, 110, 115]), (.slice [(.str [104]), (.str [116])]), (j 1), o, e, e, n, n, n]), (.agg [(.str [78, 105, 108]), n, (j 1), o, e, e, n, n, n])])])], (j 9)),
  ([(.agg [exData, (.slice [(.agg [(.str [83, 116, 97, 116, 101]), (.slice [(.agg [(.str [103, 101, 116]), (j 4), o, e, n, n, o, (j 2), o, e, n, n, o, (.bool false)]), (.agg [(.str [112, 117, 116]), (j 2), o, e, n, n, o, (j 4), o, e, n, n, o, (.bool false)])])]), (.agg [(.str [69, 120, 99]), (.slice [(.agg [(.str [114, 97, 105, 115, 101]), (j 4), o, e, n, n, o, (j 6), o, (.str [86, 111, 105, 100]), n, n, o, (.bool true)])])])]), n, (j 3), o, e, e, n, n, n]), (.agg [(j 11), o, e, e, n, (.slice [(.agg [(j 1), (j 1), e, e, n, n, n])]), (.slice [(.agg [(.str [78, 105, 108]), n, (j 1), o, e, e, n, n, n]), (.agg [(.str [67, 111, 110, 115]), (.slice [(.str [104]), (.str [116])]), (j 1), o, e, e, n, n, n])])])], o),
  ([(.agg [exData, (.slice [(.agg [(.str [83, 116, 97, 116, 101]), (.slice [(.agg [(.str [103, 101, 116]), (j 4), o, e, n, n, o, (j 2), o, e, n, n, o, (.bool false)]), (.agg [(.str [112, 117, 116]), (j 2), o, e, n, n, o, (j 4), o, e, n, n, o, (.bool false)])])]), (.agg [(.str [69, 120, 99]), (.slice [(.agg [(.str [114, 97, 105, 115, 101]), (j 4), o, e, n, n, o, (j 6), o, (.str [86, 111, 105, 100]), n, n, o, (.bool true)])])])]), n, (j 3), o, e, e, n, n, n]), (.agg [(j 14), o, (.str [83, 116, 97, 116, 101]), e, n, (.slice [(.agg [(j 1), (j 1), e, e, n, n, n])]), (.slice [(.agg [(.str [114, 101, 116, 117, 114, 110]), (.slice [(.str [120])]), (j 1), o, e, e, n, n, n]), (.agg [(.str [103, 101, 116]), (.slice [(.str [117]), (.str [107])]), (j 1), o, e, e, n, n, n])])])], (j 9))]
def m40 : List (List D × D) := [
  ([(.agg [exData, (.slice [(.agg [(.str [83, 116, 97, 116, 101]), (.slice [(.agg [(.str [103, 101, 116]), (j 4), o, e, n, n, o, (j 2), o, e, n, n, o, (.bool false)]), (.agg [(.str [112, 117, 116]), (j 2), o, e, n, n, o, (j 4), o, e, n, n, o, (.bool false)])])]), (.agg [(.str [69, 120, 99]), (.slice [(.agg [(.str [114, 97, 105, 115, 101]), (j 4), o, e, n, n, o, (j 6), o, (.str [86, 111, 105, 100]), n, n, o, (.bool true)])])])]), n, (j 3), o, e, e, n, n, n]), (.agg [(j 6), o, (.str [76, 105, 115, 116]), n, n, o])], (j 7))]
def m60 : List (List D × D) := [
  ([(.agg [(j 1), o, (.str [97]), n, n, o])], o),
  ([(.agg [(j 2), o, e, n, n, o])], o),
  ([(.agg [(j 3), o, e, n, n, o])], o),
  ([(.agg [(j 4), o, e, n, n, o])], o),
  ([(.agg [(j 6), o, (.str [76, 105, 115, 116]), (.slice [(.agg [(j 1), o, (.str [97]), n, n, o])]), n, o])], o),
  ([(.agg [(j 6), o, (.str [76, 105, 115, 116]), (.slice [(.agg [(j 2), o, e, n, n, o])]), n, o])], o),
  ([(.agg [(j 6), o, (.str [76, 105, 115, 116]), (.slice [(.agg [(j 3), o, e, n, n, o])]), n, o])], o),
  ([(.agg [(j 6), o, (.str [76, 105, 115, 116]), (.slice [(.agg [(j 5), o, e, (.slice [(.agg [(j 2), o, e, n, n, o]), (.agg [(j 2), o, e, n, n, o])]), n, (j (-1))])]), n, o])], o),
  ([(.agg [(j 6), o, (.str [76, 105, 115, 116]), (.slice [(.agg [(j 6), o, (.str [86, 111, 105, 100]), n, n, o])]), n, o])], o),
  ([(.agg [(j 6), o, (.str [76, 105, 115, 116]), n, n, o])], o),
  ([(.agg [(j 6), o, (.str [76, 111, 111, 112]), n, n, o])], o),
  ([(.agg [(j 6), o, (.str [84, 114, 101, 101]), n, n, o])], o),
  ([(.agg [(j 6), o, (.str [86, 111, 105, 100]), n, n, o])], o)]
def m80 : List (List D × D) := [
  ([(.agg [(j 10), o, (.str [66, 111, 120]), e, n, n, n])], o),
  ([(.agg [(j 10), o, (.str [67, 111, 110, 115]), e, n, (.slice [(.agg [(j 1), (j (-5)), e, e, n, n, n]), (.agg [(j 10), o, (.str [78, 105, 108]), e, n, n, n])]), n])], o),
  ([(.agg [(j 10), o, (.str [67, 111, 110, 115]), e, n, (.slice [(.agg [(j 1), (j 1), e, e, n, n, n])]), n])], o),
  ([(.agg [(j 11), o, e, e, n, (.slice [(.agg [(j 1), (j 1), e, e, n, n, n])]), (.slice [(.agg [(.str [67, 111, 110, 115]), (.slice [(.str [104]), (.str [116])]), (j 1), o, e, e, n, n, n]), (.agg [(.str [78, 105, 108]), n, (j 1), o, e, e, n, n, n])])])], o),
  ([(.agg [(j 11), o, e, e, n, (.slice [(.agg [(j 1), (j 1), e, e, n, n, n])]), (.slice [(.agg [(.str [78, 105, 108]), n, (j 1), o, e, e, n, n, n]), (.agg [(.str [67, 111, 110, 115]), (.slice [(.str [104]), (.str [116])]), (j 1), o, e, e, n, n, n])])])], o),
  ([(.agg [(j 14), o, (.str [83, 116, 97, 116, 101]), e, n, (.slice [(.agg [(j 1), (j 1), e, e, n, n, n])]), (.slice [(.agg [(.str [114, 101, 116, 117, 114, 110]), (.slice [(.str [120])]), (j 1), o, e, e, n, n, n]), (.agg [(.str [103, 101, 116]), (.slice [(.str [117]), (.str [107])]), (j 1), o, e, e, n, n, n])])])], o)]
def m95 : List (List D × D) := [
  ([(.agg [exData, exEff, n, (j 3), o, e, e, n, n, n])], o),
  ([(.agg [exData, (.slice [(.agg [(.str [83, 116, 97, 116, 101]), (.slice [(.agg [(.str [103, 101, 116]), (j 4), o, e, n, n, o, (j 2), o, e, n, n, o, (.bool false)]), (.agg [(.str [112, 117, 116]), (j 2), o, e, n, n, o, (j 4), o, e, n, n, o, (.bool false)])])]), (.agg [(.str [69, 120, 99]), (.slice [(.agg [(.str [114, 97, 105, 115, 101]), (j 4), o, e, n, n, o, (j 6), o, (.str [86, 111, 105, 100]), n, n, o, (.bool true)])])])]), n, (j 3), o, e, e, n, n, n])], o)]
def m143 : List (List D × D) := [
  ([(.str [103, 101, 116]), (j 1)], (.bool true)),
  ([(.str [104]), (j 1)], (.bool true)),
  ([(.str [107]), (j 1)], (.bool true)),
  ([(.str [112, 117, 116]), (j 1)], (.bool true)),
  ([(.str [114, 97, 105, 115, 101]), (j 1)], (.bool true)),
  ([(.str [116]), (j 1)], (.bool true)),
  ([(.str [117]), (j 1)], (.bool true)),
  ([(.str [120]), (j 1)], (.bool true)),
  ([(.str [66, 111, 120]), (j 2)], (.bool true)),
  ([(.str [67, 111, 110, 115]), (j 2)], (.bool true)),
  ([(.str [69, 120, 99]), (j 2)], (.bool true)),
  ([(.str [73, 79]), (j 2)], (.bool true)),
  ([(.str [76, 101, 97, 102]), (j 2)], (.bool true)),
  ([(.str [76, 105, 115, 116]), (j 2)], (.bool true)),
  ([(.str [76, 111, 111, 112]), (j 2)], (.bool true)),
  ([(.str [77, 111, 114, 101]), (j 2)], (.bool true)),
  ([(.str [78, 105, 108]), (j 2)], (.bool true)),
  ([(.str [78, 111, 100, 101]), (j 2)], (.bool true)),
  ([(.str [83, 116, 97, 116, 101]), (j 2)], (.bool true)),
  ([(.str [84, 114, 101, 101]), (j 2)], (.bool true)),
  ([(.str [86, 111, 105, 100]), (j 2)], (.bool true)),
  ([(.str [97]), (j 1)], (.bool true)),
  ([e, o], (.bool true))]
def m210 : List (List D × D) := [
  ([(.str [103, 101, 116])], (.bool false)),
  ([(.str [104])], (.bool false)),
  ([(.str [107])], (.bool false)),
  ([(.str [112, 117, 116])], (.bool false)),
  ([(.str [114, 97, 105, 115, 101])], (.bool false)),
  ([(.str [116])], (.bool false)),
  ([(.str [117])], (.bool false)),
  ([(.str [120])], (.bool false)),
  ([(.str [97])], (.bool false))]
end Go.AI
namespace Go.AI
open Go Go.Proofs
set_option maxRecDepth 100000
theorem mc210 : ∀ p ∈ m210, Comp tabT (extOf X0) GC 210 p.1 p.2 := all_comp (k := 60) (by kernel_rfl)
theorem real210 : Real Tryz.prog 210 := ⟨_, Tryz.func210, by kernel_rfl, by kernel_rfl⟩
def L210 : ExtL := (210, memo m210) :: X0
theorem extL210 : ExtR Tryz.prog GC (extOf L210) := ExtR.over extR0 extR0 real210 (memo_comp mc210)
end Go.AI
namespace Go.AI
open Go Go.Proofs
set_option maxRecDepth 100000
theorem mc143 : ∀ p ∈ m143, Comp tabT (extOf L210) GC 143 p.1 p.2 := all_comp (k := 60) (by kernel_rfl)
theorem real143 : Real Tryz.prog 143 := ⟨_, Tryz.func143, by kernel_rfl, by kernel_rfl⟩
def L143 : ExtL := (143, memo m143) :: L210
theorem extL143 : ExtR Tryz.prog GC (extOf L143) := ExtR.over extL210 extL210 real143 (memo_comp mc143)
end Go.AI
namespace Go.AI
open Go Go.Proofs
set_option maxRecDepth 100000
theorem mc60_0 : isAt (extOf L143) 400 60 ((m60[0]?).getD ([], o)) = true := by kernel_rfl
theorem mc60_3 : isAt (extOf L143) 400 60 ((m60[3]?).getD ([], o)) = true := by kernel_rfl
theorem mc60_6 : isAt (extOf L143) 400 60 ((m60[6]?).getD ([], o)) = true := by kernel_rfl
theorem mc60_9 : isAt (extOf L143) 400 60 ((m60[9]?).getD ([], o)) = true := by kernel_rfl
theorem mc60_12 : isAt (extOf L143) 400 60 ((m60[12]?).getD ([], o)) = true := by kernel_rfl
theorem mc80_2 : isAt (extOf L143) 400 80 ((m80[2]?).getD ([], o)) = true := by kernel_rfl
theorem mc80_5 : isAt (extOf L143) 400 80 ((m80[5]?).getD ([], o)) = true := by kernel_rfl
end Go.AI
namespace Go.AI
open Go Go.Proofs
set_option maxRecDepth 100000
theorem mc60_1 : isAt (extOf L143) 400 60 ((m60[1]?).getD ([], o)) = true := by kernel_rfl
theorem mc60_4 : isAt (extOf L143) 400 60 ((m60[4]?).getD ([], o)) = true := by kernel_rfl
theorem mc60_7 : isAt (extOf L143) 400 60 ((m60[7]?).getD ([], o)) = true := by kernel_rfl
theorem mc60_10 : isAt (extOf L143) 400 60 ((m60[10]?).getD ([], o)) = true := by kernel_rfl
theorem mc80_0 : isAt (extOf L143) 400 80 ((m80[0]?).getD ([], o)) = true := by kernel_rfl
theorem mc80_3 : isAt (extOf L143) 400 80 ((m80[3]?).getD ([], o)) = true := by kernel_rfl
end Go.AI
namespace Go.AI
open Go Go.Proofs
set_option maxRecDepth 100000
theorem mc60_2 : isAt (extOf L143) 400 60 ((m60[2]?).getD ([], o)) = true := by kernel_rfl
theorem mc60_5 : isAt (extOf L143) 400 60 ((m60[5]?).getD ([], o)) = true := by kernel_rfl
theorem mc60_8 : isAt (extOf L143) 400 60 ((m60[8]?).getD ([], o)) = true := by kernel_rfl
theorem mc60_11 : isAt (extOf L143) 400 60 ((m60[11]?).getD ([], o)) = true := by kernel_rfl
theorem mc80_1 : isAt (extOf L143) 400 80 ((m80[1]?).getD ([], o)) = true := by kernel_rfl
theorem mc80_4 : isAt (extOf L143) 400 80 ((m80[4]?).getD ([], o)) = true := by kernel_rfl
end Go.AI
namespace Go.AI
open Go Go.Proofs
set_option maxRecDepth 100000
theorem mc60 : ∀ p ∈ m60, Comp tabT (extOf L143) GC 60 p.1 p.2 := by
  intro p hp
  unfold m60 at hp
  simp only [List.mem_cons, List.not_mem_nil, or_false] at hp
  rcases hp with rfl | rfl | rfl | rfl | rfl | rfl | rfl | rfl | rfl | rfl | rfl | rfl | rfl
  · exact isAt_comp mc60_0
  · exact isAt_comp mc60_1
  · exact isAt_comp mc60_2
  · exact isAt_comp mc60_3
  · exact isAt_comp mc60_4
  · exact isAt_comp mc60_5
  · exact isAt_comp mc60_6
  · exact isAt_comp mc60_7
  · exact isAt_comp mc60_8
  · exact isAt_comp mc60_9
  · exact isAt_comp mc60_10
  · exact isAt_comp mc60_11
  · exact isAt_comp mc60_12
theorem real60 : Real Tryz.prog 60 := ⟨_, Tryz.func60, by kernel_rfl, by kernel_rfl⟩
def L60 : ExtL := (60, memo m60) :: L143
theorem extL60 : ExtR Tryz.prog GC (extOf L60) := ExtR.over extL143 extL143 real60 (memo_comp mc60)
theorem mc80 : ∀ p ∈ m80, Comp tabT (extOf L143) GC 80 p.1 p.2 := by
  intro p hp
  unfold m80 at hp
  simp only [List.mem_cons, List.not_mem_nil, or_false] at hp
  rcases hp with rfl | rfl | rfl | rfl | rfl | rfl
  · exact isAt_comp mc80_0
  · exact isAt_comp mc80_1
  · exact isAt_comp mc80_2
  · exact isAt_comp mc80_3
  · exact isAt_comp mc80_4
  · exact isAt_comp mc80_5
theorem real80 : Real Tryz.prog 80 := ⟨_, Tryz.func80, by kernel_rfl, by kernel_rfl⟩
def L80 : ExtL := (80, memo m80) :: L60
theorem extL80 : ExtR Tryz.prog GC (extOf L80) := ExtR.over extL143 extL60 real80 (memo_comp mc80)
end Go.AI
namespace Go.AI
open Go Go.Proofs
set_option maxRecDepth 100000
theorem mc95_0 : isAt (extOf L80) 400 95 ((m95[0]?).getD ([], o)) = true := by kernel_rfl
theorem mc95_1 : isAt (extOf L80) 400 95 ((m95[1]?).getD ([], o)) = true := by kernel_rfl
theorem mc95 : ∀ p ∈ m95, Comp tabT (extOf L80) GC 95 p.1 p.2 := by
  intro p hp
  unfold m95 at hp
  simp only [List.mem_cons, List.not_mem_nil, or_false] at hp
  rcases hp with rfl | rfl
  · exact isAt_comp mc95_0
  · exact isAt_comp mc95_1
theorem real95 : Real Tryz.prog 95 := ⟨_, Tryz.func95, by kernel_rfl, by kernel_rfl⟩
def L95 : ExtL := (95, memo m95) :: L80
theorem extL95 : ExtR Tryz.prog GC (extOf L95) := ExtR.over extL80 extL80 real95 (memo_comp mc95)
end Go.AI
namespace Go.AI
open Go Go.Proofs
set_option maxRecDepth 100000
theorem mc14_0 : isAt (extOf L95) 400 14 ((m14[0]?).getD ([], o)) = true := by kernel_rfl
theorem mc20_0 : isAt (extOf L95) 400 20 ((m20[0]?).getD ([], o)) = true := by kernel_rfl
theorem mc22_1 : isAt (extOf L95) 400 22 ((m22[1]?).getD ([], o)) = true := by kernel_rfl
theorem mc30_0 : isAt (extOf L95) 400 30 ((m30[0]?).getD ([], o)) = true := by kernel_rfl
theorem mc36_0 : isAt (extOf L95) 400 36 ((m36[0]?).getD ([], o)) = true := by kernel_rfl
theorem mc38_2 : isAt (extOf L95) 400 38 ((m38[2]?).getD ([], o)) = true := by kernel_rfl
theorem mc40_0 : isAt (extOf L95) 400 40 ((m40[0]?).getD ([], o)) = true := by kernel_rfl
end Go.AI
namespace Go.AI
open Go Go.Proofs
set_option maxRecDepth 100000
theorem mc14_1 : isAt (extOf L95) 400 14 ((m14[1]?).getD ([], o)) = true := by kernel_rfl
theorem mc20_1 : isAt (extOf L95) 400 20 ((m20[1]?).getD ([], o)) = true := by kernel_rfl
theorem mc24_0 : isAt (extOf L95) 400 24 ((m24[0]?).getD ([], o)) = true := by kernel_rfl
theorem mc32_0 : isAt (extOf L95) 400 32 ((m32[0]?).getD ([], o)) = true := by kernel_rfl
theorem mc38_0 : isAt (extOf L95) 400 38 ((m38[0]?).getD ([], o)) = true := by kernel_rfl
theorem mc38_3 : isAt (extOf L95) 400 38 ((m38[3]?).getD ([], o)) = true := by kernel_rfl
end Go.AI
namespace Go.AI
open Go Go.Proofs
set_option maxRecDepth 100000
theorem mc15_0 : isAt (extOf L95) 400 15 ((m15[0]?).getD ([], o)) = true := by kernel_rfl
theorem mc22_0 : isAt (extOf L95) 400 22 ((m22[0]?).getD ([], o)) = true := by kernel_rfl
theorem mc26_0 : isAt (extOf L95) 400 26 ((m26[0]?).getD ([], o)) = true := by kernel_rfl
theorem mc34_0 : isAt (extOf L95) 400 34 ((m34[0]?).getD ([], o)) = true := by kernel_rfl
theorem mc38_1 : isAt (extOf L95) 400 38 ((m38[1]?).getD ([], o)) = true := by kernel_rfl
theorem mc38_4 : isAt (extOf L95) 400 38 ((m38[4]?).getD ([], o)) = true := by kernel_rfl
end Go.AI
namespace Go.AI
open Go Go.Proofs
set_option maxRecDepth 100000
theorem mc14 : ∀ p ∈ m14, Comp tabT (extOf L95) GC 14 p.1 p.2 := by
  intro p hp
  unfold m14 at hp
  simp only [List.mem_cons, List.not_mem_nil, or_false] at hp
  rcases hp with rfl | rfl
  · exact isAt_comp mc14_0
  · exact isAt_comp mc14_1
theorem real14 : Real Tryz.prog 14 := ⟨_, Tryz.func14, by kernel_rfl, by kernel_rfl⟩
def L14 : ExtL := (14, memo m14) :: L95
theorem extL14 : ExtR Tryz.prog GC (extOf L14) := ExtR.over extL95 extL95 real14 (memo_comp mc14)
theorem mc15 : ∀ p ∈ m15, Comp tabT (extOf L95) GC 15 p.1 p.2 := by
  intro p hp
  unfold m15 at hp
  simp only [List.mem_cons, List.not_mem_nil, or_false] at hp
  subst hp
  exact isAt_comp mc15_0
theorem real15 : Real Tryz.prog 15 := ⟨_, Tryz.func15, by kernel_rfl, by kernel_rfl⟩
def L15 : ExtL := (15, memo m15) :: L14
theorem extL15 : ExtR Tryz.prog GC (extOf L15) := ExtR.over extL95 extL14 real15 (memo_comp mc15)
theorem mc20 : ∀ p ∈ m20, Comp tabT (extOf L95) GC 20 p.1 p.2 := by
  intro p hp
  unfold m20 at hp
  simp only [List.mem_cons, List.not_mem_nil, or_false] at hp
  rcases hp with rfl | rfl
  · exact isAt_comp mc20_0
  · exact isAt_comp mc20_1
theorem real20 : Real Tryz.prog 20 := ⟨_, Tryz.func20, by kernel_rfl, by kernel_rfl⟩
def L20 : ExtL := (20, memo m20) :: L15
theorem extL20 : ExtR Tryz.prog GC (extOf L20) := ExtR.over extL95 extL15 real20 (memo_comp mc20)
theorem mc22 : ∀ p ∈ m22, Comp tabT (extOf L95) GC 22 p.1 p.2 := by
  intro p hp
  unfold m22 at hp
  simp only [List.mem_cons, List.not_mem_nil, or_false] at hp
  rcases hp with rfl | rfl
  · exact isAt_comp mc22_0
  · exact isAt_comp mc22_1
theorem real22 : Real Tryz.prog 22 := ⟨_, Tryz.func22, by kernel_rfl, by kernel_rfl⟩
def L22 : ExtL := (22, memo m22) :: L20
theorem extL22 : ExtR Tryz.prog GC (extOf L22) := ExtR.over extL95 extL20 real22 (memo_comp mc22)
theorem mc24 : ∀ p ∈ m24, Comp tabT (extOf L95) GC 24 p.1 p.2 := by
  intro p hp
  unfold m24 at hp
  simp only [List.mem_cons, List.not_mem_nil, or_false] at hp
  subst hp
  exact isAt_comp mc24_0
theorem real24 : Real Tryz.prog 24 := ⟨_, Tryz.func24, by kernel_rfl, by kernel_rfl⟩
def L24 : ExtL := (24, memo m24) :: L22
theorem extL24 : ExtR Tryz.prog GC (extOf L24) := ExtR.over extL95 extL22 real24 (memo_comp mc24)
theorem mc26 : ∀ p ∈ m26, Comp tabT (extOf L95) GC 26 p.1 p.2 := by
  intro p hp
  unfold m26 at hp
  simp only [List.mem_cons, List.not_mem_nil, or_false] at hp
  subst hp
  exact isAt_comp mc26_0
theorem real26 : Real Tryz.prog 26 := ⟨_, Tryz.func26, by kernel_rfl, by kernel_rfl⟩
def L26 : ExtL := (26, memo m26) :: L24
theorem extL26 : ExtR Tryz.prog GC (extOf L26) := ExtR.over extL95 extL24 real26 (memo_comp mc26)
theorem mc30 : ∀ p ∈ m30, Comp tabT (extOf L95) GC 30 p.1 p.2 := by
  intro p hp
  unfold m30 at hp
  simp only [List.mem_cons, List.not_mem_nil, or_false] at hp
  subst hp
  exact isAt_comp mc30_0
theorem real30 : Real Tryz.prog 30 := ⟨_, Tryz.func30, by kernel_rfl, by kernel_rfl⟩
def L30 : ExtL := (30, memo m30) :: L26
theorem extL30 : ExtR Tryz.prog GC (extOf L30) := ExtR.over extL95 extL26 real30 (memo_comp mc30)
theorem mc32 : ∀ p ∈ m32, Comp tabT (extOf L95) GC 32 p.1 p.2 := by
  intro p hp
  unfold m32 at hp
  simp only [List.mem_cons, List.not_mem_nil, or_false] at hp
  subst hp
  exact isAt_comp mc32_0
theorem real32 : Real Tryz.prog 32 := ⟨_, Tryz.func32, by kernel_rfl, by kernel_rfl⟩
def L32 : ExtL := (32, memo m32) :: L30
theorem extL32 : ExtR Tryz.prog GC (extOf L32) := ExtR.over extL95 extL30 real32 (memo_comp mc32)
theorem mc34 : ∀ p ∈ m34, Comp tabT (extOf L95) GC 34 p.1 p.2 := by
  intro p hp
  unfold m34 at hp
  simp only [List.mem_cons, List.not_mem_nil, or_false] at hp
  subst hp
  exact isAt_comp mc34_0
theorem real34 : Real Tryz.prog 34 := ⟨_, Tryz.func34, by kernel_rfl, by kernel_rfl⟩
def L34 : ExtL := (34, memo m34) :: L32
theorem extL34 : ExtR Tryz.prog GC (extOf L34) := ExtR.over extL95 extL32 real34 (memo_comp mc34)
theorem mc36 : ∀ p ∈ m36, Comp tabT (extOf L95) GC 36 p.1 p.2 := by
  intro p hp
  unfold m36 at hp
  simp only [List.mem_cons, List.not_mem_nil, or_false] at hp
  subst hp
  exact isAt_comp mc36_0
theorem real36 : Real Tryz.prog 36 := ⟨_, Tryz.func36, by kernel_rfl, by kernel_rfl⟩
def L36 : ExtL := (36, memo m36) :: L34
theorem extL36 : ExtR Tryz.prog GC (extOf L36) := ExtR.over extL95 extL34 real36 (memo_comp mc36)
theorem mc38 : ∀ p ∈ m38, Comp tabT (extOf L95) GC 38 p.1 p.2 := by
  intro p hp
  unfold m38 at hp
  simp only [List.mem_cons, List.not_mem_nil, or_false] at hp
  rcases hp with rfl | rfl | rfl | rfl | rfl
  · exact isAt_comp mc38_0
  · exact isAt_comp mc38_1
  · exact isAt_comp mc38_2
  · exact isAt_comp mc38_3
  · exact isAt_comp mc38_4
theorem real38 : Real Tryz.prog 38 := ⟨_, Tryz.func38, by kernel_rfl, by kernel_rfl⟩
def L38 : ExtL := (38, memo m38) :: L36
theorem extL38 : ExtR Tryz.prog GC (extOf L38) := ExtR.over extL95 extL36 real38 (memo_comp mc38)
theorem mc40 : ∀ p ∈ m40, Comp tabT (extOf L95) GC 40 p.1 p.2 := by
  intro p hp
  unfold m40 at hp
  simp only [List.mem_cons, List.not_mem_nil, or_false] at hp
  subst hp
  exact isAt_comp mc40_0
theorem real40 : Real Tryz.prog 40 := ⟨_, Tryz.func40, by kernel_rfl, by kernel_rfl⟩
def L40 : ExtL := (40, memo m40) :: L38
theorem extL40 : ExtR Tryz.prog GC (extOf L40) := ExtR.over extL95 extL38 real40 (memo_comp mc40)
def XM : ExtL := L40
theorem extM : ExtR Tryz.prog GC (extOf XM) := extL40
end Go.AI
namespace Go.AI
open Go Go.Proofs
set_option maxRecDepth 100000
theorem ev16 : fnTree tabT (extOf XM) GC 60 16 [] = some (.bool true) := by kernel_rfl
theorem real16 : Real Tryz.prog 16 := ⟨_, Tryz.func16, by kernel_rfl, by kernel_rfl⟩
/-- Awake, of which nothing more is asked. -/
theorem pure16 : PureCall Tryz.prog GC 16 [] (.bool true) := (pure_of_eval extM tabR isGC.tree isGC.natR isGC.post mixed ev16).2.2
end Go.AI
namespace Go.AI
open Go Go.Proofs
set_option maxRecDepth 100000

def qI (f : FuncId) : Bool := [117, 101, 123, 195].contains f
/-- What a call leaves: new objects are let go, if they can be; function 196 keeps them. -/
noncomputable def postJ (f : FuncId) (σ : St) (x : Option (FRes × St)) : Option (FRes × St) := if (f == 196) = true then x else postI qI f σ x
noncomputable def GI : Gl := { g := globT, nat := fun _ => none, catches := catT, query := qI, post := postJ }
theorem postJ_ok : PostOK GI := by
  have hI : PostOK ({ GI with post := postI qI } : Gl) := postI_ok rfl
  constructor
  · intro f σ x r σ' hx
    have hx : postJ f σ x = some (r, σ') := hx
    unfold postJ at hx
    split at hx
    · exact ⟨r, σ', hx, fun _ _ _ _ _ h => h⟩
    · exact hI.sound f σ x r σ' hx
  · intro f σ x d σ' hq hx
    have hx : postJ f σ x = some (.ret d, σ') := hx
    unfold postJ at hx
    split at hx
    · rename_i hf
      have : f = 196 := by simpa using hf
      subst this
      cases hq
    · exact hI.query f σ x d σ' hq hx
theorem isGI : IsG GI := ⟨rfl, rfl, rfl, postJ_ok⟩
@[simp] theorem GI_g : GI.g = globT := rfl
@[simp] theorem GI_nat (f : FuncId) : GI.nat f = none := rfl
@[simp] theorem GI_post : GI.post = postJ := rfl
@[simp] theorem GI_query : GI.query = qI := rfl

def g16 : List D → Option D
  | [] => some (.bool true)
  | _ => none
def XI : ExtL := [(16, g16), (222, g222)]
theorem extRI : ExtR Tryz.prog GI (extOf XI) := by
  refine ExtR.cons (ExtR.cons (L := []) (fun f g h => by cases h) real222 (pure222 isGI)) real16 fun args r _ h => ?_
  unfold g16 at h
  split at h
  · cases h; exact ⟨rfl, pure16⟩
  · cases h

/-- The calls of the seat. -/
noncomputable abbrev CI : CallF := callI tabT (extOf XI) GI
abbrev XB : FuncId → Bool := fun f => (extOf XI f).isSome
theorem postN (f : FuncId) (σ : St) : GI.post f σ none = none := by
  show postJ f σ none = none
  unfold postJ; split <;> rfl

theorem ext_none {f : FuncId} (h : (f == 16) = false ∧ (f == 222) = false := by exact ⟨rfl, rfl⟩) : extOf XI f = none := by
  simp only [beq_eq_false_iff_ne, ne_eq] at h
  simp [extOf, XI, h.1, h.2]

/-- Functions that are not known otherwise. -/
def okF (f : FuncId) : Prop := ((f == 16) = false ∧ (f == 222) = false) ∧ (f == 196) = false
/-- A function, by its body. -/
theorem CI_fn {f : FuncId} {af : AFunc} (hT : tabT f = some af) {args : List D} {σ : St} {x y : FRes × St} (h : bodyI CI XB GI af args σ = some y) (hp : postI qI f σ (some y) = some x)
    (hx : okF f := by exact ⟨⟨rfl, rfl⟩, rfl⟩) : CI (.fn f) args σ = some x :=
  callI_fn postN (ext_none hx.1) hT h (by show postJ f σ _ = _; unfold postJ; rw [if_neg (by rw [hx.2]; exact Bool.false_ne_true)]; exact hp)

/-- A function that gives a tree. -/
theorem CI_tree {f : FuncId} {af : AFunc} (hT : tabT f = some af) {args : List D} {σ τ : St} {d r : D} (h : bodyI CI XB GI af args σ = some (.ret d, σ ++ τ)) (hd : d.tree = true) (hr : d.weak = r)
    (hx : okF f := by exact ⟨⟨rfl, rfl⟩, rfl⟩) : CI (.fn f) args σ = some (.ret r, σ) :=
  CI_fn hT h (by rw [postI_tree hd, hr]) hx
theorem CI_tree0 {f : FuncId} {af : AFunc} (hT : tabT f = some af) {args : List D} {σ : St} {d r : D} (h : bodyI CI XB GI af args σ = some (.ret d, σ)) (hd : d.tree = true) (hr : d.weak = r)
    (hx : okF f := by exact ⟨⟨rfl, rfl⟩, rfl⟩) : CI (.fn f) args σ = some (.ret r, σ) :=
  CI_fn hT h (by rw [postI_tree0 hd, hr]) hx

/-! ### Data -/
structure Lab where
  s : Bs
  n : Int
inductive Ty where
  | mk (kind n : Int) (s : Bs) (l : List Ty) (labels : List Lab) (tail : Int)
mutual
inductive Ex where
  | mk (kind n : Int) (s t : Bs) (names : List Bs) (l : List Ex) (arms : List Arm)
inductive Arm where
  | mk (op : Bs) (names : List Bs) (body : Ex)
end
structure Con where
  name : Bs
  args : List Ty
structure Dat where
  name : Bs
  params : List Bs
  cons : List Con
structure Opn where
  name : Bs
  arg : Ty
  res : Ty
  once : Bool
structure Eff where
  name : Bs
  ops : List Opn
structure Dfn where
  name : Bs
  body : Ex
structure Prg where
  data : List Dat
  effects : List Eff
  defs : List Dfn
  main : Ex

def Lab.d (x : Lab) : D := .agg [.str x.s, .int .i64 x.n]
mutual
def Ty.cs : Ty → List D
  | .mk k n s l labels tail => [.int .i64 k, .int .i64 n, .str s, .slice (tysD l), .slice (labels.map Lab.d), .int .i64 tail]
def tysD : List Ty → List D
  | [] => []
  | t :: r => .agg t.cs :: tysD r
end
def Ty.d (t : Ty) : D := .agg t.cs
mutual
def Ex.cs : Ex → List D
  | .mk k n s t names l arms => [.int .i64 k, .int .i64 n, .str s, .str t, slD names, .slice (exsD l), .slice (armsD arms)]
def exsD : List Ex → List D
  | [] => []
  | x :: r => .agg x.cs :: exsD r
def Arm.cs : Arm → List D
  | .mk op names body => .str op :: slD names :: body.cs
def armsD : List Arm → List D
  | [] => []
  | x :: r => .agg x.cs :: armsD r
end
def Ex.d (x : Ex) : D := .agg x.cs
def Arm.d (x : Arm) : D := .agg x.cs
def Con.cs (c : Con) : List D := [.str c.name, .slice (tysD c.args)]
def Con.d (c : Con) : D := .agg c.cs
def Dat.cs (d : Dat) : List D := [.str d.name, slD d.params, .slice (d.cons.map Con.d)]
def Dat.d (d : Dat) : D := .agg d.cs
def Opn.cs (o : Opn) : List D := .str o.name :: (o.arg.cs ++ o.res.cs ++ [.bool o.once])
def Opn.d (o : Opn) : D := .agg o.cs
def Eff.cs (e : Eff) : List D := [.str e.name, .slice (e.ops.map Opn.d)]
def Eff.d (e : Eff) : D := .agg e.cs
def Dfn.cs (d : Dfn) : List D := .str d.name :: d.body.cs
def Dfn.d (d : Dfn) : D := .agg d.cs
def Prg.cs (p : Prg) : List D := [.slice (p.data.map Dat.d), .slice (p.effects.map Eff.d), .slice (p.defs.map Dfn.d)] ++ p.main.cs
def Prg.d (p : Prg) : D := .agg p.cs

theorem tysD_map : ∀ (l : List Ty), tysD l = l.map Ty.d
  | [] => rfl
  | t :: r => by simp only [tysD, List.map_cons, tysD_map r]; rfl
theorem exsD_map : ∀ (l : List Ex), exsD l = l.map Ex.d
  | [] => rfl
  | t :: r => by simp only [exsD, List.map_cons, exsD_map r]; rfl
theorem armsD_map : ∀ (l : List Arm), armsD l = l.map Arm.d
  | [] => rfl
  | t :: r => by simp only [armsD, List.map_cons, armsD_map r]; rfl

/-! Trees, in their weak form -/
def Plain (d : D) : Prop := d.tree = true ∧ d.weak = d
theorem plain_str (s : Bs) : Plain (.str s) := ⟨rfl, rfl⟩
theorem plain_int (k : IntKind) (n : Int) : Plain (.int k n) := ⟨rfl, rfl⟩
theorem plain_bool (b : Bool) : Plain (.bool b) := ⟨rfl, rfl⟩
def PlainL (l : List D) : Prop := treeL l = true ∧ weakL l = l
theorem PlainL.nil : PlainL [] := ⟨rfl, rfl⟩
theorem PlainL.cons {d : D} {l : List D} (h : Plain d) (hl : PlainL l) : PlainL (d :: l) := ⟨by simp [treeL, h.1, hl.1], by simp [weakL, h.2, hl.2]⟩
theorem PlainL.app {a b : List D} (ha : PlainL a) (hb : PlainL b) : PlainL (a ++ b) := by
  induction a with
  | nil => exact hb
  | cons x a ih =>
    obtain ⟨h1, h2⟩ := ha
    simp only [treeL, Bool.and_eq_true, weakL, List.cons.injEq] at h1 h2
    exact PlainL.cons ⟨h1.1, h2.1⟩ (ih ⟨h1.2, h2.2⟩)
theorem PlainL.slice {l : List D} (h : PlainL l) : Plain (.slice l) := ⟨h.1, by simp only [D.weak, h.2]⟩
theorem PlainL.agg {l : List D} (h : PlainL l) : Plain (.agg l) := ⟨h.1, by simp only [D.weak, h.2]⟩
theorem PlainL.map {α : Type} {f : α → D} {l : List α} (h : ∀ x ∈ l, Plain (f x)) : PlainL (l.map f) := by
  induction l with
  | nil => exact .nil
  | cons a r ih => exact .cons (h a List.mem_cons_self) (ih fun x hx => h x (List.mem_cons_of_mem _ hx))
theorem plain_strs (l : List Bs) : Plain (slD l) := (PlainL.map fun x _ => plain_str x).slice
theorem Lab.plain (x : Lab) : Plain x.d := PlainL.agg (.cons (plain_str _) (.cons (plain_int _ _) .nil))
mutual
theorem Ty.plain : ∀ (t : Ty), PlainL t.cs
  | .mk k n s l labels tail => .cons (plain_int _ _) (.cons (plain_int _ _) (.cons (plain_str _) (.cons (tys_plain l).slice (.cons (PlainL.map fun x _ => x.plain).slice (.cons (plain_int _ _) .nil)))))
theorem tys_plain : ∀ (l : List Ty), PlainL (tysD l)
  | [] => .nil
  | t :: r => .cons t.plain.agg (tys_plain r)
end
mutual
theorem Ex.plain : ∀ (t : Ex), PlainL t.cs
  | .mk k n s t names l arms => .cons (plain_int _ _) (.cons (plain_int _ _) (.cons (plain_str _) (.cons (plain_str _) (.cons (plain_strs _) (.cons (exs_plain l).slice (.cons (arms_plain arms).slice .nil))))))
theorem exs_plain : ∀ (l : List Ex), PlainL (exsD l)
  | [] => .nil
  | t :: r => .cons t.plain.agg (exs_plain r)
theorem Arm.plain : ∀ (t : Arm), PlainL t.cs
  | .mk op names body => .cons (plain_str _) (.cons (plain_strs _) body.plain)
theorem arms_plain : ∀ (l : List Arm), PlainL (armsD l)
  | [] => .nil
  | t :: r => .cons t.plain.agg (arms_plain r)
end
theorem Con.plain (c : Con) : Plain c.d := PlainL.agg (.cons (plain_str _) (.cons (tys_plain _).slice .nil))
theorem Dat.plain (d : Dat) : Plain d.d := PlainL.agg (.cons (plain_str _) (.cons (plain_strs _) (.cons (PlainL.map fun c _ => c.plain).slice .nil)))
theorem Opn.plain (o : Opn) : Plain o.d := PlainL.agg (.cons (plain_str _) (.app (.app o.arg.plain o.res.plain) (.cons (plain_bool _) .nil)))
theorem Eff.plain (e : Eff) : Plain e.d := PlainL.agg (.cons (plain_str _) (.cons (PlainL.map fun c _ => c.plain).slice .nil))
theorem Dfn.plain (d : Dfn) : Plain d.d := PlainL.agg (.cons (plain_str _) d.body.plain)
theorem Prg.plain (p : Prg) : Plain p.d := PlainL.agg (.app (.cons (PlainL.map fun c _ => c.plain).slice (.cons (PlainL.map fun c _ => c.plain).slice (.cons (PlainL.map fun c _ => c.plain).slice .nil))) p.main.plain)
end Go.AI
namespace Go.AI
open Go Go.Proofs
set_option maxRecDepth 100000

/-- No list that comes in is longer: elements take 16 bytes at least. -/
def maxL : Nat := 8796093021952
def indexP (l : List Bs) (s : Bs) : Int := match l.findIdx? (· == s) with | some i => i | none => -1

theorem c89 (l : List Bs) (s : Bs) (σ : St) (hl : l.length ≤ maxL) : CI (.fn 89) [slD l, .str s] σ = some (.ret (.int .i64 (indexP l s)), σ) := by
  unfold maxL at hl
  refine CI_tree0 tab89 (d := .int .i64 (indexP l s)) ?_ rfl rfl
  have hit := loop_find (f := evalI CI XB GI 19 false lp89_0) (σ := σ) l (fun i => [(0, slD l), (1, .str s), (7, .int .i64 l.length), (8, .int .i64 (i : Nat))]) (· == s) (fun i => (.ret, [(4, .int .i64 (i : Nat))], σ)) (.exit 0, [(0, slD l), (1, .str s), (7, .int .i64 l.length), (8, .int .i64 l.length), (9, .bool false)], σ) (by simp) (by simp)
    (fun i hi => by
      have hw := wrap_nat (n := i) (by omega)
      have hc : (s == l[i]) = (l[i] == s) := BEq.comm
      cases hb : l[i] == s <;> simp [lp89_0, hi, hw, hb, hc]) (by
      simp [lp89_0])
  rw [Int.natCast_zero] at hit
  unfold indexP
  cases hf : l.findIdx? (· == s) <;> (rw [hf] at hit; simp [bodyI, af89, hit])
theorem c111 (l : List Bs) (s : Bs) (σ : St) (hl : l.length ≤ maxL) : CI (.fn 111) [slD l, .str s] σ = some (.ret (.bool (decide (0 ≤ indexP l s))), σ) := by
  refine CI_tree0 tab111 (d := .bool (decide (0 ≤ indexP l s))) ?_ rfl rfl
  simp [bodyI, af111, c89 l s σ hl]
theorem c198 (n a b : Int) (σ : St) : CI (.fn 198) [.int .i64 n, .int .i64 a, .int .i64 b] σ = some (.ret (.bool (decide (a ≤ n) && decide (n ≤ b))), σ) := by
  refine CI_tree0 tab198 (d := .bool (decide (a ≤ n) && decide (n ≤ b))) ?_ rfl rfl
  by_cases h1 : a ≤ n <;> simp [bodyI, af198, h1]
end Go.AI
namespace Go.Lx

abbrev Bs := List UInt8
def isBlank (c : UInt8) : Bool := c == 32 || c == 9 || c == 10
def isLow (c : UInt8) : Bool := c == 95 || (97 ≤ c && c ≤ 122)
def isUp (c : UInt8) : Bool := 65 ≤ c && c ≤ 90
def isDig (c : UInt8) : Bool := 48 ≤ c && c ≤ 57
def isW (c : UInt8) : Bool := isLow c || isUp c || isDig c
/-- The kind of a byte. -/
def kind (c : UInt8) : Int := if isBlank c then 1 else if isLow c then 2 else if isUp c then 3 else if isDig c then 4 else 0

/-- The keywords. -/
def kws : List Bs := [[102, 117, 110], [108, 101, 116], [114, 101, 99], [105, 110], [105, 102], [116, 104, 101, 110], [101, 108, 115, 101], [109, 97, 116, 99, 104], [100, 111],
  [104, 97, 110, 100, 108, 101], [115, 104, 97, 108, 108, 111, 119], [110, 97, 109, 101, 100], [109, 97, 115, 107], [117, 115, 105, 110, 103], [99, 108, 111, 115, 101],
  [114, 101, 115, 117, 109, 101], [100, 114, 111, 112], [114, 101, 116, 117, 114, 110], [116, 114, 117, 101], [102, 97, 108, 115, 101], [100, 97, 116, 97], [101, 102, 102, 101, 99, 116],
  [111, 110, 99, 101], [100, 101, 102], [109, 97, 105, 110]]
def isKey (s : Bs) : Bool := kws.contains s
/-- A word of the language whose first byte is of a kind. -/
def wordOf (p : UInt8 → Bool) (s : Bs) : Bool := match s with
  | [] => false
  | c :: r => decide (r.length < 12) && p c && (c :: r).all isW
def varW (s : Bs) : Bool := wordOf isLow s && !isKey s
def upW (s : Bs) : Bool := wordOf isUp s

def kindI (n : Int) : Int := if (n == 32) || (n == 9) || (n == 10) then 1 else if (n == 95) || (decide (97 ≤ n) && decide (n ≤ 122)) then 2 else if decide (65 ≤ n) && decide (n ≤ 90) then 3
  else if decide (48 ≤ n) && decide (n ≤ 57) then 4 else 0
theorem all_bytes_Int {p : Int → UInt8 → Prop} (h : ∀ n : Fin 256, p n.val (UInt8.ofNat n.val)) (c : UInt8) : p c.toNat c := by
  have := h ⟨c.toNat, c.toNat_lt⟩
  simpa using this
theorem kindI_eq (c : UInt8) : kindI c.toNat = kind c := all_bytes_Int (p := fun n c => kindI n = kind c) (by decide +kernel) c
theorem kindW_eq (c : UInt8) : (decide ((c.toNat : Int) < 128) && decide (2 ≤ kindI c.toNat)) = isW c :=
  all_bytes_Int (p := fun n c => (decide (n < 128) && decide (2 ≤ kindI n)) = isW c) (by decide +kernel) c
theorem low_kind (c : UInt8) : (kind c == 2) = isLow c := all_bytes_Int (p := fun n c => (kind c == 2) = isLow c) (by decide +kernel) c
theorem up_kind (c : UInt8) : (kind c == 3) = isUp c := all_bytes_Int (p := fun n c => (kind c == 3) = isUp c) (by decide +kernel) c

def lwordI (k : Int) (s : Bs) : Bool := match s with
  | [] => false
  | c :: r => decide (r.length < 12) && (kind c == k) && (c :: r).all isW
theorem lword_low (s : Bs) : lwordI 2 s = wordOf isLow s := by
  cases s with
  | nil => rfl
  | cons c r => simp only [lwordI, wordOf, low_kind]
theorem lword_up (s : Bs) : lwordI 3 s = wordOf isUp s := by
  cases s with
  | nil => rfl
  | cons c r => simp only [lwordI, wordOf, up_kind]
end Go.Lx
namespace Go.AI
open Go Go.Proofs Go.Lx
set_option maxRecDepth 100000

theorem c218 (n : Int) (σ : St) : CI (.fn 218) [.int .u8 n] σ = some (.ret (.int .i64 (kindI n)), σ) := by
  refine CI_tree0 tab218 (d := .int .i64 (kindI n)) ?_ rfl rfl
  unfold kindI
  cases h1 : n == 32
  · cases h2 : n == 9
    · cases h3 : n == 10
      · cases h4 : n == 95
        · by_cases h5 : 97 ≤ n
          · by_cases h6 : n ≤ 122
            · simp [bodyI, af218, h1, h2, h3, h4, h5, h6]
            · have h7 : ¬ n ≤ 90 := by omega
              have h8 : ¬ n ≤ 57 := by omega
              have h9 : 65 ≤ n := by omega
              have h10 : 48 ≤ n := by omega
              simp [bodyI, af218, h1, h2, h3, h4, h5, h6, h7, h8, h9, h10]
          · by_cases h6 : 65 ≤ n
            · by_cases h7 : n ≤ 90
              · simp [bodyI, af218, h1, h2, h3, h4, h5, h6, h7]
              · have h8 : ¬ n ≤ 57 := by omega
                have h10 : 48 ≤ n := by omega
                simp [bodyI, af218, h1, h2, h3, h4, h5, h6, h7, h8, h10]
            · by_cases h7 : 48 ≤ n
              · by_cases h8 : n ≤ 57
                · simp [bodyI, af218, h1, h2, h3, h4, h5, h6, h7, h8]
                · simp [bodyI, af218, h1, h2, h3, h4, h5, h6, h7, h8]
              · simp [bodyI, af218, h1, h2, h3, h4, h5, h6, h7]
        · simp [bodyI, af218, h1, h2, h3, h4]
      · simp [bodyI, af218, h1, h2, h3]
    · simp [bodyI, af218, h1, h2]
  · simp [bodyI, af218, h1]

theorem decode_ascii (l : Bs) (i : Nat) (hi : i < l.length) (h : (l[i].toNat : Int) < 128) : Utf8.decode ⟨l.toArray⟩ i = (l[i].toNat, 1) := by
  rw [Lib.decode_at]
  have hg : (ByteArray.get! ⟨l.toArray⟩ i) = l[i] := by
    simp [ByteArray.get!, hi]
  rw [hg]
  unfold Lib.decodeN
  rw [if_pos (by omega)]
theorem decode_big (l : Bs) (i : Nat) (hi : i < l.length) (h : ¬ (l[i].toNat : Int) < 128) : 128 ≤ (Utf8.decode ⟨l.toArray⟩ i).1 := by
  rw [Lib.decode_at]
  have hg : (ByteArray.get! ⟨l.toArray⟩ i) = l[i] := by
    simp [ByteArray.get!, hi]
  rw [hg]
  rcases Lib.decodeN_shape ((ByteArray.size ⟨l.toArray⟩) - i) l[i].toNat (ByteArray.get! ⟨l.toArray⟩ (i + 1)).toNat (ByteArray.get! ⟨l.toArray⟩ (i + 2)).toNat (ByteArray.get! ⟨l.toArray⟩ (i + 3)).toNat with h1 | h1 | h1 | h1 | h1
  · omega
  · rw [h1.2.2.2.2]; exact h1.2.2.2.1
  · rw [h1.2.2.2.2.2.2]; show 128 ≤ _; omega
  · rw [h1.2.2.2.2.2.2.2]; show 128 ≤ _; omega
  · rw [h1]; show 128 ≤ 65533; omega

theorem it209 (l : Bs) (σ : St) : iterI (evalI CI XB GI 34 false lp209_0) [(22, .ptr σ.length 0)] (σ ++ [.siter l 0]) =
    some (match l.findIdx? (fun c => !isW c) with
      | some i => (.ret, [(4, .bool false)], σ ++ [.siter l (i + (Utf8.decode ⟨l.toArray⟩ i).2)])
      | none => (.exit 0, (22, .ptr σ.length 0) :: [(23, .tuple [.bool false]), (24, .bool false)], σ ++ [.siter l l.length])) := by
  have := loop_findS (f := evalI CI XB GI 34 false lp209_0) l (fun i => (22, .ptr σ.length 0) :: (if i = 0 then [] else [(33, .bool false)])) (fun i => σ ++ [.siter l i]) (fun c => !isW c)
    (fun i => (.ret, [(4, .bool false)], σ ++ [.siter l (i + (Utf8.decode ⟨l.toArray⟩ i).2)])) (.exit 0, [(22, .ptr σ.length 0), (23, .tuple [.bool false]), (24, .bool false)], σ ++ [.siter l l.length]) (by simp) (by simp)
    (fun i hi => by
      generalize htl : (if i = 0 then ([] : Env) else [(33, .bool false)]) = tl
      have htl' : tl = [] ∨ tl = [(33, .bool false)] := by subst htl; split <;> simp
      simp only [Nat.add_one_ne_zero, if_false]
      by_cases h : (l[i].toNat : Int) < 128
      · have hd := decode_ascii l i hi h
        have hk := kindW_eq l[i]
        have hw : IntKind.u8.wrap (l[i].toNat : Int) = l[i].toNat := by simp [IntKind.wrap, IntKind.bits, IntKind.signed]; have := l[i].toNat_lt; omega
        obtain ⟨n, hn⟩ : ∃ n : Int, (l[i].toNat : Int) = n := ⟨_, rfl⟩
        rw [hn] at hk hw h
        have h2 : ¬ (127 : Int) < n := by omega
        have h2' : n ≤ 127 := by omega
        cases hW : isW l[i] with
        | true =>
          rw [hW] at hk
          simp only [Bool.and_eq_true, decide_eq_true_eq] at hk
          have h3 : ¬ kindI n < 2 := by omega
          rcases htl' with rfl | rfl <;> simp [lp209_0, getA0, setA0, hi, hd, hn, hw, h2, h2', h3, c218]
        | false =>
          rw [hW] at hk
          have h3 : kindI n < 2 := by
            have : decide (n < 128) = true := decide_eq_true h
            rw [this] at hk
            simp at hk; omega
          rcases htl' with rfl | rfl <;> simp [lp209_0, getA0, setA0, hi, hd, hn, hw, h2, h2', h3, c218]
      · have hd := decode_big l i hi h
        have hk := kindW_eq l[i]
        have hW : isW l[i] = false := by
          rw [← hk]
          have : decide ((l[i].toNat : Int) < 128) = false := decide_eq_false h
          rw [this]; rfl
        obtain ⟨⟨r, w⟩, hr⟩ : ∃ p, Utf8.decode ⟨l.toArray⟩ i = p := ⟨_, rfl⟩
        rw [hr] at hd
        have h2 : (127 : Int) < (r : Int) := by have : 128 ≤ r := hd; omega
        have h2' : 127 < r := by omega
        rcases htl' with rfl | rfl <;> simp [lp209_0, getA0, setA0, hi, hr, h2, h2', hW]) (by
      generalize htl : (if l.length = 0 then ([] : Env) else [(33, .bool false)]) = tl
      have htl' : tl = [] ∨ tl = [(33, .bool false)] := by subst htl; split <;> simp
      rcases htl' with rfl | rfl <;> simp [lp209_0, getA0])
  exact this

theorem c209 (s : Bs) (kd : Int) (σ : St) : CI (.fn 209) [.str s, .int .i64 kd] σ = some (.ret (.bool (lwordI kd s)), σ) := by
  obtain ⟨τ, hτ⟩ : ∃ τ, bodyI CI XB GI af209 [.str s, .int .i64 kd] σ = some (.ret (.bool (lwordI kd s)), σ ++ τ) := by
    cases s with
    | nil => exact ⟨[], by simp [bodyI, af209, lwordI]⟩
    | cons c t =>
      by_cases h12 : t.length < 12
      · have hit := it209 (c :: t) σ
        generalize hl : c :: t = l at *
        have e2 : ¬ (12 : Int) < l.length := by rw [← hl]; simp; omega
        have e2' : ¬ 12 < l.length := by rw [← hl]; simp; omega
        have e6 : 0 < l.length := by rw [← hl]; simp
        have e7 : (l == ([] : Bs)) = false := by rw [← hl]; rfl
        have e4 : l[0] = c := by simp [← hl]
        have hk := kindI_eq c
        have hs : lwordI kd l = ((kind c == kd) && l.all isW) := by
          rw [← hl]; simp only [lwordI, decide_eq_true h12, Bool.true_and]
        rw [hs]
        cases hkd : kind c == kd
        · have hb : (kind c != kd) = true := by simp only [bne, hkd]; rfl
          exact ⟨[], by simp [bodyI, af209, c218, e2, e2', e4, e6, e7, hk, hb]⟩
        · have hb : (kind c != kd) = false := by simp only [bne, hkd]; rfl
          cases hf : l.findIdx? (fun c => !isW c) with
          | none =>
            rw [hf] at hit
            rw [findIdx_all hf]
            exact ⟨[.siter l l.length], by simp [bodyI, af209, c218, e2, e2', e4, e6, e7, hk, hb, hit]⟩
          | some i =>
            rw [hf] at hit
            rw [findIdx_not hf]
            exact ⟨[.siter l (i + (Utf8.decode ⟨l.toArray⟩ i).2)], by simp [bodyI, af209, c218, e2, e2', e4, e6, e7, hk, hb, hit]⟩
      · have hs : lwordI kd (c :: t) = false := by simp only [lwordI, decide_eq_false h12, Bool.false_and]
        rw [hs]
        generalize hl : c :: t = l at *
        have e2 : (12 : Int) < l.length := by rw [← hl]; simp; omega
        have e2' : 12 < l.length := by rw [← hl]; simp; omega
        have e7 : (l == ([] : Bs)) = false := by rw [← hl]; rfl
        exact ⟨[], by simp [bodyI, af209, e2, e2', e7]⟩
  exact CI_tree tab209 hτ rfl rfl
theorem c185 (s : Bs) (σ : St) : CI (.fn 185) [.str s] σ = some (.ret (.bool (upW s)), σ) := by
  refine CI_tree0 tab185 (d := .bool (upW s)) ?_ rfl rfl
  simp [bodyI, af185, c209, lword_up, upW]
end Go.AI
namespace Go.AI
open Go Go.Proofs Go.Lx
set_option maxRecDepth 100000

def kwm (l : List Bs) : List (D × D) := l.map fun s => (.str s, .int .i64 1)
theorem mapSet_new (s : Bs) (v : D) : ∀ (l : List Bs), s ∉ l → mapSet 2 (.str s) v (kwm l) = some (kwm l ++ [(.str s, v)])
  | [], _ => rfl
  | a :: r, h => by
    have hne : (s == a) = false := by simp only [List.mem_cons, not_or] at h; simpa using h.1
    have ih := mapSet_new s v r (by simp only [List.mem_cons, not_or] at h; exact h.2)
    simp only [kwm, List.map_cons, mapSet, D.kindEq, hne] at ih ⊢
    rw [ih]; rfl
theorem mapFind_kwm (s : Bs) : ∀ (l : List Bs), mapFind 2 (.str s) (kwm l) = some (if l.contains s then some (.int .i64 1) else none)
  | [] => rfl
  | a :: r => by
    have ih := mapFind_kwm s r
    simp only [kwm, List.map_cons, mapFind, D.kindEq] at ih ⊢
    cases h : s == a with
    | true =>
      have : s = a := by simpa using h
      subst this
      simp
    | false =>
      simp only [ih, List.contains_cons, h, Bool.false_or]
theorem kws_nodup : kws.Nodup := by decide +kernel
theorem kws_new (i : Nat) (hi : i < kws.length) : kws[i] ∉ kws.take i := by
  intro hm
  obtain ⟨j, hj, hj'⟩ := List.mem_take_iff_getElem.1 hm
  have := (List.getElem_inj (i := j) (j := i) (h₀ := by omega) (h₁ := hi) kws_nodup).1 hj'
  omega
theorem fields_kws : g222 [.str [102, 117, 110, 32, 108, 101, 116, 32, 114, 101, 99, 32, 105, 110, 32, 105, 102, 32, 116, 104, 101, 110, 32, 101, 108, 115, 101, 32, 109, 97, 116, 99, 104, 32, 100, 111, 32, 104, 97, 110, 100, 108, 101, 32, 115, 104, 97, 108, 108, 111, 119, 32, 110, 97, 109, 101, 100, 32, 109, 97, 115, 107, 32, 117, 115, 105, 110, 103, 32, 99, 108, 111, 115, 101, 32, 114, 101, 115, 117, 109, 101, 32, 100, 114, 111, 112, 32, 114, 101, 116, 117, 114, 110, 32, 116, 114, 117, 101, 32, 102, 97, 108, 115, 101, 32, 100, 97, 116, 97, 32, 101, 102, 102, 101, 99, 116, 32, 111, 110, 99, 101, 32, 100, 101, 102, 32, 109, 97, 105, 110]] = some (slD kws) := by kernel_rfl

theorem c222 (l : Bs) (r : D) (σ : St) (h : g222 [.str l] = some r) : CI (.fn 222) [.str l] σ = some (.ret r, σ) := by
  refine callI_ext postN (g := fun a => g222 (weakL a)) (by simp [extOf, XI]) ?_
  simp [callExt, h]
theorem c219 (σ : St) : CI (.fn 219) [] σ = some (.ret (.map σ.length), σ ++ [.map (kwm kws)]) := by
  have hit := loop_findS (f := evalI CI XB GI 15 false lp219_0) kws (fun i => [(1, .map σ.length), (5, slD kws), (6, .int .i64 kws.length), (7, .int .i64 (i : Nat))]) (fun i => σ ++ [.map (kwm (kws.take i))]) (fun _ => false)
    (fun i => (.ret, [], σ)) (.exit 0, [(1, .map σ.length), (5, slD kws), (6, .int .i64 kws.length), (7, .int .i64 kws.length), (8, .bool false)], σ ++ [.map (kwm kws)]) (by simp) (by simp)
    (fun i hi => by
      have hw := wrap_nat (n := i) (by have : kws.length = 25 := rfl; omega)
      have hm := mapSet_new kws[i] (.int .i64 1) (kws.take i) (kws_new i hi)
      have ht : kwm (kws.take i) ++ [(.str kws[i], .int .i64 1)] = kwm (kws.take (i + 1)) := by
        rw [List.take_add_one, List.getElem?_eq_getElem hi]
        unfold kwm
        rw [List.map_append]; rfl
      rw [ht] at hm
      generalize hk : kws = K at *
      generalize hg : K[i] = s at *
      simp [lp219_0, hi, hw, getA0, setA0, D.kindEq, hg, hm]) (by
      have : kws.take kws.length = kws := List.take_length
      generalize kws = K at *
      simp [lp219_0, this])
  have hn : kws.findIdx? (fun _ => false) = none := by rw [List.findIdx?_eq_none_iff]; simp
  rw [hn, Int.natCast_zero] at hit
  have h0 : kwm (kws.take 0) = [] := rfl
  rw [h0] at hit
  have h25 := c222 _ _ (σ ++ [.map []]) fields_kws
  have hb : bodyI CI XB GI af219 [] σ = some (.ret (.map σ.length), σ ++ [.map (kwm kws)]) := by
    generalize kws = K at *
    simp [bodyI, af219, h25, hit]
  refine CI_fn tab219 hb ?_
  have hk : Keeps σ (σ ++ [.map (kwm kws)]) := keeps_app
  simp [postI, trim, if_pos hk, trimV, strip, D.under, qI]

theorem c210 (s : Bs) (σ : St) : CI (.fn 210) [.str s] σ = some (.ret (.bool (isKey s)), σ) := by
  refine CI_tree (τ := [.map (kwm kws)]) tab210 (d := .bool (isKey s)) ?_ rfl rfl
  have hf := mapFind_kwm s kws
  unfold isKey
  have hg := c219 σ
  generalize kws = K at *
  cases h : K.contains s <;> (rw [h] at hf; simp [bodyI, af210, hg, getA0, hf, D.kindEq])
theorem c184 (s : Bs) (σ : St) : CI (.fn 184) [.str s] σ = some (.ret (.bool (varW s)), σ) := by
  refine CI_tree0 tab184 (d := .bool (varW s)) ?_ rfl rfl
  unfold varW
  cases h : wordOf isLow s <;> simp [bodyI, af184, c209, lword_low, h, c210]
end Go.AI
namespace Go.AI
open Go Go.Proofs Go.Lx
set_option maxRecDepth 100000

def prims : List Bs := [[43], [45], [42], [60], [61, 61]]
def isC (s : Bs) (k : Int) : Bool := if k == 1 then varW s else if k == 2 then upW s else if k == 3 then prims.contains s else s == []
theorem c143 (s : Bs) (k : Int) (σ : St) : CI (.fn 143) [.str s, .int .i64 k] σ = some (.ret (.bool (isC s k)), σ) := by
  refine CI_tree0 tab143 (d := .bool (isC s k)) ?_ rfl rfl
  unfold isC
  cases h1 : k == 1
  · cases h2 : k == 2
    · cases h3 : k == 3
      · simp [bodyI, af143, h1, h2, h3]
      · unfold prims
        simp only [List.contains_cons, List.contains_nil, Bool.or_false]
        cases a1 : s == [43]
        · cases a2 : s == [45]
          · cases a3 : s == [42]
            · cases a4 : s == [60] <;> simp [bodyI, af143, h1, h2, h3, a1, a2, a3, a4]
            · simp [bodyI, af143, h1, h2, h3, a1, a2, a3]
          · simp [bodyI, af143, h1, h2, h3, a1, a2]
        · simp [bodyI, af143, h1, h2, h3, a1]
    · simp [bodyI, af143, h1, h2, c185]
  · simp [bodyI, af143, h1, c184]

/-- The built-in types' names. -/
def nInt : Bs := [73, 110, 116]
def nBool : Bs := [66, 111, 111, 108]
def nUnit : Bs := [85, 110, 105, 116]
def builtins : List Bs := [nInt, nBool, nUnit]
def builtinK (s : Bs) : Int := if s == nInt then 2 else if s == nBool then 3 else if s == nUnit then 4 else 0
theorem c199 (s : Bs) (σ : St) : CI (.fn 199) [.str s] σ = some (.ret (.tuple [.int .i64 (builtinK s), .bool (builtins.contains s)]), σ) := by
  refine CI_tree0 tab199 (d := .tuple [.int .i64 (builtinK s), .bool (builtins.contains s)]) ?_ rfl rfl
  unfold builtinK builtins nInt nBool nUnit
  simp only [List.contains_cons, List.contains_nil, Bool.or_false]
  cases h1 : s == [73, 110, 116]
  · cases h2 : s == [66, 111, 111, 108]
    · cases h3 : s == [85, 110, 105, 116] <;> simp [bodyI, af199, h1, h2, h3]
    · simp [bodyI, af199, h1, h2]
  · simp [bodyI, af199, h1]

/-! The reference's -/
theorem indexP_ge (l : List Bs) (s : Bs) : decide (0 ≤ indexP l s) = l.contains s := by
  unfold indexP
  rw [Bool.eq_iff_iff]
  cases h : l.findIdx? (· == s) with
  | none =>
    rw [List.findIdx?_eq_none_iff] at h
    simp only [decide_eq_true_eq, List.contains_iff_mem]
    constructor
    · intro h; omega
    · intro hm; have := h s hm; simp at this
  | some i =>
    simp only [decide_eq_true_eq, List.contains_iff_mem]
    constructor
    · intro _
      obtain ⟨hi, h1, _⟩ := List.findIdx?_eq_some_iff_getElem.1 h
      have : l[i] = s := by simpa using h1
      rw [← this]; exact List.getElem_mem hi
    · intro _; omega
theorem k111 (l : List Bs) (s : Bs) (σ : St) (hl : l.length ≤ maxL) : CI (.fn 111) [slD l, .str s] σ = some (.ret (.bool (l.contains s)), σ) := by
  rw [c111 l s σ hl, indexP_ge]

end Go.AI
namespace Go.AI
open Go Go.Proofs Go.Lx
set_option maxRecDepth 100000

def Ty.n : Ty → Int | .mk _ n .. => n
def Ty.s : Ty → Bs | .mk _ _ s .. => s
def Ty.tail : Ty → Int | .mk _ _ _ _ _ t => t

/-- Has a list a string? -/
def hasS (l : List Bs) (s : Bs) : Bool := l.contains s
def isB (s : Bs) : Bool := hasS builtins s
theorem k199 (s : Bs) (σ : St) : CI (.fn 199) [.str s] σ = some (.ret (.tuple [.int .i64 (builtinK s), .bool (isB s)]), σ) := c199 s σ
theorem h111 (l : List Bs) (s : Bs) (σ : St) (hl : l.length ≤ maxL) : CI (.fn 111) [slD l, .str s] σ = some (.ret (.bool (hasS l s)), σ) := k111 l s σ hl
def inR (n a b : Int) : Bool := decide (a ≤ n) && decide (n ≤ b)
def labE (x : Lab) : Int := if upW x.s then (if inR x.n 0 999999999 then 0 else 1) else 4
def rowE (ls : List Lab) (tail : Int) : Int := firstE (ls.map labE ++ [if inR tail (-1) 999999999 then 0 else 1])
def rowD (ls : List Lab) (tail : Int) : D := .agg [.slice (ls.map Lab.d), .int .i64 tail]

theorem isC2 (s : Bs) : isC s 2 = upW s := rfl
theorem isC1 (s : Bs) : isC s 1 = varW s := rfl

theorem c200 (ls : List Lab) (tail : Int) (σ : St) (hl : ls.length ≤ maxL) : CI (.fn 200) [rowD ls tail] σ = some (.ret (.int .i64 (rowE ls tail)), σ) := by
  unfold maxL at hl
  obtain ⟨τ, hτ⟩ : ∃ τ, bodyI CI XB GI af200 [rowD ls tail] σ = some (.ret (.int .i64 (rowE ls tail)), σ ++ τ) := by
    obtain ⟨τ, hit⟩ := loop_seek (f := evalI CI XB GI 27 false lp200_0) (σ := σ ++ [.box [.slice (ls.map Lab.d), .int .i64 tail]]) ls (fun i => [(1, .ptr σ.length 0), (6, .slice (ls.map Lab.d)), (7, .int .i64 ls.length), (8, .int .i64 (i : Nat))]) (fun a => labE a != 0) (fun a => (.ret, [(2, .int .i64 (labE a))]))
      (.exit 0, [(1, .ptr σ.length 0), (6, .slice (ls.map Lab.d)), (7, .int .i64 ls.length), (8, .int .i64 ls.length), (9, .bool false)]) (by simp) (by simp)
      (fun i hi τ => by
        have hw := wrap_nat (n := i) (by omega)
        rcases hx : ls[i] with ⟨s, n⟩
        generalize hσ : σ ++ [.box [.slice (ls.map Lab.d), .int .i64 tail]] ++ τ = σ1
        refine ⟨τ ++ [.box [.str s, .int .i64 n]], ?_⟩
        rw [← List.append_assoc, hσ]
        unfold labE inR
        cases h1 : upW s
        · simp [lp200_0, hi, hw, hx, Lab.d, h1, getA0, setA0, c143, isC2]
        · by_cases h2 : 0 ≤ n
          · by_cases h3 : n ≤ 999999999
            · simp [lp200_0, hi, hw, hx, Lab.d, h1, h2, h3, getA0, setA0, c143, c198, isC2]
            · simp [lp200_0, hi, hw, hx, Lab.d, h1, h2, h3, getA0, setA0, c143, c198, isC2]
          · simp [lp200_0, hi, hw, hx, Lab.d, h1, h2, getA0, setA0, c143, c198, isC2]) (fun τ => ⟨τ, by simp [lp200_0]⟩) []
    rw [Int.natCast_zero, List.append_nil] at hit
    refine ⟨[.box [.slice (ls.map Lab.d), .int .i64 tail]] ++ τ, ?_⟩
    rw [← List.append_assoc]
    have hg : (σ ++ [.box [.slice (ls.map Lab.d), .int .i64 tail]] ++ τ)[σ.length]? = some (.box [.slice (ls.map Lab.d), .int .i64 tail]) := by
      rw [List.append_assoc]; exact getA0
    unfold rowE
    rw [firstE_app, firstE_find]
    cases hf : ls.find? (fun a => labE a != 0) with
    | some a =>
      rw [hf] at hit
      have : labE a ≠ 0 := by have := List.find?_some hf; simpa using this
      simp [bodyI, af200, rowD, getA0, hit, this]
    | none =>
      rw [hf] at hit
      generalize hσ : σ ++ [.box [.slice (ls.map Lab.d), .int .i64 tail]] ++ τ = σ1 at *
      unfold firstE inR
      by_cases h2 : -1 ≤ tail
      · by_cases h3 : tail ≤ 999999999 <;> simp [bodyI, af200, rowD, getA0, hit, hg, c198, h2, h3, firstE]
      · simp [bodyI, af200, rowD, getA0, hit, hg, c198, h2, firstE]
  exact CI_tree tab200 hτ rfl rfl

theorem k200 (ls : List Lab) (tail : Int) (σ : St) (hl : ls.length ≤ maxL) : CI (.fn 200) [.agg [.slice (ls.map Lab.d), .int .i64 tail]] σ = some (.ret (.int .i64 (rowE ls tail)), σ) := c200 ls tail σ hl
theorem k198 (n a b : Int) (σ : St) : CI (.fn 198) [.int .i64 n, .int .i64 a, .int .i64 b] σ = some (.ret (.bool (inR n a b)), σ) := c198 n a b σ
def classT (k : Int) : Int := if k = 1 then 1 else if k = 6 then 2 else 0
def leastT (k : Int) : Int := if k = 5 then 2 else 0
def mostT (k : Int) : Int := if k = 5 then 2 else if k = 6 then 4 else 0
/-- A node of a type. -/
def tnodeE (k n : Int) (s : Bs) (len : Nat) (ls : List Lab) (tail : Int) : Int :=
  if (!inR k 0 6) || ((!inR n 0 999999999) || ((k != 0) && decide (0 < n))) then 1
  else if (!isC s (classT k)) || isB s then 4
  else if !inR len (leastT k) (mostT k) then 7
  else if k = 5 then rowE ls tail
  else if decide (0 < ls.length) || (tail != 0) then 1 else 0

set_option maxHeartbeats 1000000 in
theorem c163 (k n : Int) (s : Bs) (l : List D) (ls : List Lab) (tail : Int) (σ : St) (hl : ls.length ≤ maxL) :
    CI (.fn 163) [.agg [.int .i64 k, .int .i64 n, .str s, .slice l, .slice (ls.map Lab.d), .int .i64 tail]] σ = some (.ret (.int .i64 (tnodeE k n s l.length ls tail)), σ) := by
  obtain ⟨τ, hτ⟩ : ∃ τ, bodyI CI XB GI af163 [.agg [.int .i64 k, .int .i64 n, .str s, .slice l, .slice (ls.map Lab.d), .int .i64 tail]] σ = some (.ret (.int .i64 (tnodeE k n s l.length ls tail)), σ ++ τ) := by
    refine ⟨[.box [.int .i64 k, .int .i64 n, .str s, .slice l, .slice (ls.map Lab.d), .int .i64 tail]], ?_⟩
    have h200 := fun σ => k200 ls tail σ hl
    have hz : decide (0 < ls.length) = true → ¬ ls.map Lab.d = [] := by cases ls <;> simp
    have hz' : decide (0 < ls.length) = false → ls.map Lab.d = [] := by cases ls <;> simp
    unfold tnodeE
    generalize ls.map Lab.d = lsd at *
    generalize decide (0 < ls.length) = lp at *
    cases hk : inR k 0 6
    · simp [bodyI, af163, getA0, k198, hk]
    cases hn : inR n 0 999999999
    · simp [bodyI, af163, getA0, k198, hk, hn]
    have rest : ∀ (_ : ((k != 0) && decide (0 < n)) = false), bodyI CI XB GI af163 [.agg [.int .i64 k, .int .i64 n, .str s, .slice l, .slice lsd, .int .i64 tail]] σ =
        some (.ret (.int .i64 (if (!isC s (classT k)) || isB s then 4 else if !inR l.length (leastT k) (mostT k) then 7 else if k = 5 then rowE ls tail else if lp || (tail != 0) then 1 else 0)), σ ++ [.box [.int .i64 k, .int .i64 n, .str s, .slice l, .slice lsd, .int .i64 tail]]) := by
      intro h0
      have hkk : k = 0 ∨ k = 1 ∨ k = 2 ∨ k = 3 ∨ k = 4 ∨ k = 5 ∨ k = 6 := by
        unfold inR at hk; simp at hk; omega
      by_cases h5 : k = 5
      · subst h5
        have hp : ¬ 0 < n := by simpa using h0
        cases hc : isC s 0
        · simp [bodyI, af163, getA0, k198, hk, hn, hp, classT, k199, c143, hc]
        cases hb : isB s
        · cases hlen : inR l.length 2 2 <;> simp [bodyI, af163, getA0, k198, hk, hn, hp, classT, leastT, mostT, k199, c143, hc, hb, hlen, h200]
        · simp [bodyI, af163, getA0, k198, hk, hn, hp, classT, k199, c143, hc, hb]
      · cases hc : isC s (classT k)
        · cases hk0 : k != 0
          · have : k = 0 := by simpa using hk0
            subst this
            simp [classT] at hc
            simp [bodyI, af163, getA0, k198, hk, hn, k199, c143, hc, classT]
          · have hp : ¬ 0 < n := by rw [hk0] at h0; simpa using h0
            rcases hkk with rfl | rfl | rfl | rfl | rfl | rfl | rfl <;> simp [classT] at hc hk0 h5 <;> simp [bodyI, af163, getA0, k198, hk, hn, hp, k199, c143, hc, classT]
        · cases hb : isB s
          · cases hlen : inR l.length (leastT k) (mostT k)
            · cases hk0 : k != 0
              · have : k = 0 := by simpa using hk0
                subst this
                simp [classT, leastT, mostT] at hc hlen
                simp [bodyI, af163, getA0, k198, hk, hn, k199, c143, hc, hb, hlen, classT, leastT, mostT]
              · have hp : ¬ 0 < n := by rw [hk0] at h0; simpa using h0
                rcases hkk with rfl | rfl | rfl | rfl | rfl | rfl | rfl <;> simp [classT, leastT, mostT] at hc hk0 h5 hlen <;> simp [bodyI, af163, getA0, k198, hk, hn, hp, k199, c143, hc, hb, hlen, classT, leastT, mostT]
            · cases hls : lp
              rotate_left
              · have hls' := hz hls
                have hls2 : 0 < lsd.length := List.length_pos_iff.2 hls'
                cases hk0 : k != 0
                · have : k = 0 := by simpa using hk0
                  subst this
                  simp [classT, leastT, mostT] at hc hlen
                  simp [bodyI, af163, getA0, k198, hk, hn, k199, c143, hc, hb, hlen, hls, hls', hls2, classT, leastT, mostT]
                · have hp : ¬ 0 < n := by rw [hk0] at h0; simpa using h0
                  rcases hkk with rfl | rfl | rfl | rfl | rfl | rfl | rfl <;> simp [classT, leastT, mostT] at hc hk0 h5 hlen <;> simp [bodyI, af163, getA0, k198, hk, hn, hp, k199, c143, hc, hb, hlen, hls, hls', hls2, classT, leastT, mostT]
              · have hls' := hz' hls
                have hls2 : lsd.length = 0 := by rw [hls']; rfl
                cases hk0 : k != 0
                · have : k = 0 := by simpa using hk0
                  subst this
                  simp [classT, leastT, mostT] at hc hlen
                  cases ht : tail != 0 <;> simp [bodyI, af163, getA0, k198, hk, hn, k199, c143, hc, hb, hlen, hls, hls', hls2, ht, classT, leastT, mostT]
                · have hp : ¬ 0 < n := by rw [hk0] at h0; simpa using h0
                  cases ht : tail != 0 <;> (rcases hkk with rfl | rfl | rfl | rfl | rfl | rfl | rfl <;> simp [classT, leastT, mostT] at hc hk0 h5 hlen <;> simp [bodyI, af163, getA0, k198, hk, hn, hp, k199, c143, hc, hb, hlen, hls, hls', hls2, ht, classT, leastT, mostT])
          · cases hk0 : k != 0
            · have : k = 0 := by simpa using hk0
              subst this
              simp [classT] at hc
              simp [bodyI, af163, getA0, k198, hk, hn, k199, c143, hc, hb, classT]
            · have hp : ¬ 0 < n := by rw [hk0] at h0; simpa using h0
              rcases hkk with rfl | rfl | rfl | rfl | rfl | rfl | rfl <;> simp [classT] at hc hk0 h5 <;> simp [bodyI, af163, getA0, k198, hk, hn, hp, k199, c143, hc, hb, classT]
    cases h0 : (k != 0) && decide (0 < n)
    · rw [rest h0]; simp
    · have h1 : (k != 0) = true ∧ 0 < n := by simpa using h0
      simp [bodyI, af163, getA0, k198, hk, hn, h1.1, h1.2]
  exact CI_tree tab163 hτ rfl rfl
end Go.AI
